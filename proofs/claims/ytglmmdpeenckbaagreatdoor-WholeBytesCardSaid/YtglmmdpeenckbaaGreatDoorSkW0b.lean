/-
  Steps of functions,plain law,and walks of functions: what the laws rest on.
-/
import Derived.Test.YtglmmdpeenckbaaGreatDoorSkW0a
set_option linter.unusedVariables false
set_option linter.unusedSimpArgs false
set_option linter.unusedSectionVars false
namespace Go.SK
open Go.RowKit Go.ChangeShapes Go.WideShapes Go.ChangeAt
def zcl (Y:Int):Nat → Nat → List InstL → Int × Int
  | _,_,[]=>(0,0)
  | n,k,i :: is=>if za7 Y i ≠ 0 then (za7 Y i,(k:Int)) else if n + zbY (zaW i.op) i.args > 1048576 then (4,(k:Int)) else zcl Y (n + zbY (zaW i.op) i.args) (k + 1) is
def zbl (Y:Int) (l:List InstL):Int × Int:=if Y = 0 ∨ Y > 65536 then (24,0) else zcl Y 5 0 l
abbrev zd6 (Y:Int) (l:List InstL):List zqT:=l.map fun i=>(zkV Y i).1
def zg8:InstL:=⟨0,0,0,[]⟩
section
variable {Y:Int}
theorem zkU {i:InstL}:(zkV Y i).2 = za7 Y i:=by
  unfold zkV; split
  · rfl
  · rename_i h; exact (Nn h).symm
theorem zgW {i:InstL} (h:za7 Y i = 0):(zc6 i.op).isSome = true ∧ idH (zaW i.op).ty i.ty Y 40 = 0 ∧ idH (zaW i.op).res i.res Y 41 = 0 ∧ zby (zaW i.op) Y 0 i.args = 0 ∧ ¬ znb (zaW i.op) i.args.length ∧ zbY (zaW i.op) i.args ≤ 65535:=by
  cases hs:(zc6 i.op).isSome with
  | false=>rw [znI hs] at h; cases h
  | true =>
    rw [ze2 hs] at h
    split at h
    · rename_i h1; exact absurd h h1
    · rename_i h1
      split at h
      · rename_i h2; exact absurd h h2
      · rename_i h2
        split at h
        · rename_i h3; exact absurd h h3
        · rename_i h3
          split at h
          · cases h
          · rename_i h4
            split at h
            · cases h
            · rename_i h5
              exact ⟨rfl,Nn h1,Nn h2,Nn h3,h4,by omega⟩
theorem zhW {fm:FormL}:∀ (l:List ArgP) (k:Nat),zby fm Y k l = 0 → ∀ a ∈ l,∃ c:Int,zbv c a Y = 0
  | [],_,_,a,h=>by cases h
  | x :: l, k, h, a, ha => by
    rw [zby] at h
    split at h
    · rename_i h1; exact absurd h h1
    · rename_i h1
      cases ha with
      | head=>exact ⟨_,Nn h1⟩
      | tail _ ha=>exact zhW l (k + 1) h a ha
theorem zcw {c:Int} {a:ArgP} (h:zbv c a Y = 0):c ≠ 0 ∧ a.kind = zbR c ∧ (a.kind = 3 → a.n = 0) ∧ (a.kind ≠ 3 → a.s = []) ∧ (a.kind = 1 → idE a.n Y = 0) ∧ (a.kind = 4 → zgX c a.n = 0) ∧ zbr a.s = a.s.length:=by
  unfold zbv at h
  split at h
  · cases h
  · rename_i h1
    split at h
    · cases h
    · rename_i h2
      split at h
      · cases h
      · rename_i h3
        split at h
        · cases h
        · rename_i h4
          split at h
          · cases h
          · rename_i h5
            exact ⟨fun e=>h1 (.inl e),Nn fun e=>h1 (.inr e),fun k=>Nn fun e=>h2 (.inl ⟨k,e⟩),fun k=>Nn fun e=>h2 (.inr ⟨k,e⟩),fun k=>Nn fun e=>h3 ⟨k,e⟩,fun k=>Nn fun e=>h4 ⟨k,e⟩,Nn h5⟩
theorem zj2 {l:List ArgP} {a:ArgP} (h:a ∈ l):zaT a ≤ (l.map zaT).sum:=by
  induction l with
  | nil=>cases h
  | cons x l ih =>
    simp only [List.map_cons,List.sum_cons]
    cases h with
    | head=>omega
    | tail _ h=>have:=ih h; omega
theorem zwP {c:Int} {a:ArgP} (h:zbv c a Y = 0) (hr:zaT a ≤ 65535):(zr7 a).length = zaT a:=by
  have hz:=(zcw h).2.2.2.2.2.2
  by_cases hk:a.kind = 3
  · rw [(zee hk).1, (zee hk).2]
    rw [(zee hk).2] at hr
    exact zh3 (by unfold zcI; rw [if_neg (fun e=>e hz),if_neg (by omega)])
  · rw [(zfo hk).1,(zfo hk).2]; rfl
theorem znC:∀ {l:List ArgP},(∀ a ∈ l,(zr7 a).length = zaT a) → (l.flatMap zr7).length = (l.map zaT).sum
  | [],_=>rfl
  | a :: l, h => by
    simp only [List.flatMap_cons,List.length_append,List.map_cons,List.sum_cons]
    rw [h a (.head _),znC fun b hb=>h b (.tail _ hb)]
theorem zeO {i:InstL} (h:za7 Y i = 0):(zfy (zaW i.op) i).length + 1 = zbY (zaW i.op) i.args ∧ (zfy (zaW i.op) i).length < 65535:=by
  have hp:=zgW h
  have hl:(zfy (zaW i.op) i).length + 1 = zbY (zaW i.op) i.args:=by
    have hr:=hp.2.2.2.2.2
    unfold zfy zbY at *
    rw [List.length_append,znC (fun a ha=>by
      obtain ⟨c,hc⟩:=zhW _ _ hp.2.2.2.1 a ha
      exact zwP hc (by have:=zj2 ha; omega))]
    have:(zrS (zaW i.op) i.ty i.res).length = b2n (zaW i.op).ty + b2n (zaW i.op).res:=by
      unfold zrS b2n; split <;> split <;> simp
    omega
  exact ⟨hl,by omega⟩
theorem zoO {n k:Nat} {l:List InstL} {j:Nat} (h:j < l.length):zcl Y n k (l.drop j) = if za7 Y (l.getD j zg8) ≠ 0 then (za7 Y (l.getD j zg8),(k:Int)) else if n + zbY (zaW (l.getD j zg8).op) (l.getD j zg8).args > 1048576 then (4,(k:Int)) else zcl Y (n + zbY (zaW (l.getD j zg8).op) (l.getD j zg8).args) (k + 1) (l.drop (j + 1)):=by
  have e:l.drop j = l.getD j zg8 :: l.drop (j + 1):=by
    rw [List.drop_eq_getElem_cons h]; simp [List.getD,h]
  rw [e,zcl]
theorem zrn {n k:Nat} {l:List InstL}:zcl Y n k (l.drop l.length) = (0,0):=by rw [List.drop_of_length_le (Nat.le_refl _)]; rfl
theorem zfL {l:List InstL} (h:Y = 0 ∨ Y > 65536):zbl Y l = (24,0):=if_pos h
theorem zd5 {l:List InstL} (h:¬ Y = 0) (h2:¬ Y > 65536):zbl Y l = zcl Y 5 0 l:=if_neg fun h3=>h3.elim h h2
end
end Go.SK
namespace Go.SK
theorem znf {l:List InstP} {i:Nat} (h:i < l.length):(l.map InstP.L).getD i zg8 = (l.getD i zeroI).L:=zdJ InstP.L zeroI h
theorem zru {Y:Int} {l:List InstP} {i:Nat} (h:i < l.length):zd6 Y ((l.map InstP.L).take (i + 1)) = zd6 Y ((l.map InstP.L).take i) ++ [(zkV Y (l.getD i zeroI).L).1]:=by
  rw [zce (d:=zg8) (by rw [List.length_map]; exact h),znf h]; simp [zd6]
theorem zp8 {Y:Int} {i:InstL} {r:zqT} {e:Int} (h:zkV Y i = (r,e)):e = za7 Y i ∧ (e = 0 → r.2.length + 1 = zbY (zaW i.op) i.args ∧ r.2.length < 65535 ∧ r.1 = i.op) ∧ (e ≠ 0 → r = (0,[])):=by
  have hf:=zkU (Y:=Y) (i:=i)
  rw [h] at hf
  refine ⟨hf,fun he=>?_,fun he=>?_⟩
  · have h0 : za7 Y i = 0 := by rw [← hf]; exact he
    rw [zjs h0] at h
    injection h with h1 h2
    rw [← h1]
    have:=zeO h0
    exact ⟨this.1,this.2,rfl⟩
  · rw [zhm hf.symm he] at h
    injection h with h1 h2
    exact h1.symm
open Go.RowKit Go.ChangeShapes Go.WideShapes Go.ChangeAt
abbrev zyU:=(Int × Int × List InstL) × (Int × Int)
structure Small (l:List InstP):Prop where
  len:l.length ≤ 3000000000000
  op:∀ i ∈ l,0 ≤ i.op
  op2:∀ i ∈ l,i.op < 65536
  sum:∀ i ∈ l,(i.args.map zaT).sum ≤ 900000000
  txt:∀ i ∈ l,∀ a ∈ i.args,a.s.length ≤ 100000000000
theorem Small.of {l m:List InstP} (h:l.map InstP.L = m.map InstP.L) (hm:Small m):Small l:=by
  have key:∀ i ∈ l,∃ j ∈ m,j.op = i.op ∧ j.args = i.args:=fun i hi=>by
    have:i.L ∈ m.map InstP.L:=h ▸ List.mem_map_of_mem hi
    obtain ⟨j,hj,he⟩:=List.mem_map.1 this
    exact ⟨j,hj,congrArg InstL.op he,congrArg InstL.args he⟩
  refine ⟨by rw [zno h]; exact hm.len,fun i hi=>?_,fun i hi=>?_,fun i hi=>?_,fun i hi=>?_⟩ <;> obtain ⟨j,hj,h1,h2⟩:=key i hi
  · rw [← h1]; exact hm.op j hj
  · rw [← h1]; exact hm.op2 j hj
  · rw [← h2]; exact hm.sum j hj
  · rw [← h2]; exact hm.txt j hj
abbrev SQ:=@zoR
abbrev RG:=@zge
abbrev G:=@RunL.nil
abbrev Q:=@RunL.cons
abbrev TK:=@RunL.take
abbrev OM:=@zuC
abbrev TP:=@RV.tmp
section
variable {P:Program} {b:Base} {k:List Item} {f:Nat → Value} {w:World} {E:Frame → World → Prop} {ops:Array Oper} {l:List Oper} {d:Option Tmp} {ty:TypeId} {pos:String} {aft:Array Edge} {x:Operand}
theorem SR {id:Nat} {y:Code} (h:RunL P b l.toArray l (.code y :: k) f w E):Run P b (.code (.seq (.region id l.toArray false) y) :: k) f w E:=zoR (zge h)
theorem NSR {l2:List Oper} {id:Nat} {y:Code} (h:RunL P b l2.toArray l2 (.code y :: k) f w E):RunL P b ops [] (.code (.seq (.region id l2.toArray false) y) :: k) f w E:=RunL.nil (zoR (zge h))
theorem NR {l2:List Oper} {id:Nat} (h:RunL P b l2.toArray l2 k f w E):RunL P b ops [] (.code (.region id l2.toArray false) :: k) f w E:=RunL.nil (zge h)
abbrev mvO (x:Operand) (d:Option Tmp) (ty:TypeId) (pos:String) (aft:Array Edge):Oper:={ dst:=d,op:=.move x,type:=ty,pos:=pos,after:=aft,guard:=none }
abbrev asO (x:Operand) (d:Option Tmp) (ty:TypeId) (pos:String) (aft:Array Edge):Oper:={ dst:=d,op:=.assign x,type:=ty,pos:=pos,after:=aft,guard:=none }
theorem MI {a:Int} (h:ev b.n f x = .int .i64 a) (hk:RunL P b ops l k (zg6 f d (.int .i64 a)) w E):RunL P b ops (mvO x d ty pos aft :: l) k f w E:=RunL.cons (zad h hk)
theorem AI {a:Int} (h:ev b.n f x = .int .i64 a) (hk:RunL P b ops l k (zg6 f d (.int .i64 a)) w E):RunL P b ops (asO x d ty pos aft :: l) k f w E:=RunL.cons (zap h hk)
theorem MU {a:Int} (h:ev b.n f x = .int .u32 a) (hk:RunL P b ops l k (zg6 f d (.int .u32 a)) w E):RunL P b ops (mvO x d ty pos aft :: l) k f w E:=RunL.cons (zad h hk)
theorem AU {a:Int} (h:ev b.n f x = .int .u32 a) (hk:RunL P b ops l k (zg6 f d (.int .u32 a)) w E):RunL P b ops (asO x d ty pos aft :: l) k f w E:=RunL.cons (zap h hk)
theorem MH {a:Int} (h:ev b.n f x = .int .u16 a) (hk:RunL P b ops l k (zg6 f d (.int .u16 a)) w E):RunL P b ops (mvO x d ty pos aft :: l) k f w E:=RunL.cons (zad h hk)
theorem MC {a:Int} (h:ev b.n f x = .int .u8 a) (hk:RunL P b ops l k (zg6 f d (.int .u8 a)) w E):RunL P b ops (mvO x d ty pos aft :: l) k f w E:=RunL.cons (zad h hk)
theorem AC {a:Int} (h:ev b.n f x = .int .u8 a) (hk:RunL P b ops l k (zg6 f d (.int .u8 a)) w E):RunL P b ops (asO x d ty pos aft :: l) k f w E:=RunL.cons (zap h hk)
theorem MB {a:Bool} (h:ev b.n f x = .bool a) (hk:RunL P b ops l k (zg6 f d (.bool a)) w E):RunL P b ops (mvO x d ty pos aft :: l) k f w E:=RunL.cons (zad h hk)
theorem AB {a:Bool} (h:ev b.n f x = .bool a) (hk:RunL P b ops l k (zg6 f d (.bool a)) w E):RunL P b ops (asO x d ty pos aft :: l) k f w E:=RunL.cons (zap h hk)
theorem MS {a:List UInt8} (h:ev b.n f x = str a) (hk:RunL P b ops l k (zg6 f d (str a)) w E):RunL P b ops (mvO x d ty pos aft :: l) k f w E:=RunL.cons (zad h hk)
theorem AS {a:List UInt8} (h:ev b.n f x = str a) (hk:RunL P b ops l k (zg6 f d (str a)) w E):RunL P b ops (asO x d ty pos aft :: l) k f w E:=RunL.cons (zap h hk)
theorem ML {a:Option Addr} {n c:Nat} (h:ev b.n f x = .slice a n c) (hk:RunL P b ops l k (zg6 f d (.slice a n c)) w E):RunL P b ops (mvO x d ty pos aft :: l) k f w E:=RunL.cons (zad h hk)
theorem AL {a:Option Addr} {n c:Nat} (h:ev b.n f x = .slice a n c) (hk:RunL P b ops l k (zg6 f d (.slice a n c)) w E):RunL P b ops (asO x d ty pos aft :: l) k f w E:=RunL.cons (zap h hk)
theorem MP {a c:Nat} (h:ev b.n f x = .pointer (some ⟨a,c,none⟩)) (hk:RunL P b ops l k (zg6 f d (.pointer (some ⟨a,c,none⟩))) w E):RunL P b ops (mvO x d ty pos aft :: l) k f w E:=RunL.cons (zad h hk)
theorem AP {a c:Nat} (h:ev b.n f x = .pointer (some ⟨a,c,none⟩)) (hk:RunL P b ops l k (zg6 f d (.pointer (some ⟨a,c,none⟩))) w E):RunL P b ops (asO x d ty pos aft :: l) k f w E:=RunL.cons (zap h hk)
end
section
variable {P:Program} {ty:TypeId} {ρ:Operand → Value} {w0 w:World} {C:Value → World → Prop} {M:Nat → Prop} {L L' D:List Res} {T T':TypeId} {d:TypeDesc} {sz bytes:Nat} {zs:List Value} {x y:Operand} {b off:Nat} {v:Value} {l vs l':List Value}
theorem SO (V:St w0 M L D w) (hT:TyF P T d sz bytes zs) (hx:ρ x = .pointer (some ⟨b,off,none⟩)) (hy:ρ y = v) (hsel:Sel (Res.row b T' l) (Res.row b T' l') L L') (h:∀ w':World,St w0 M L' D w' → C undef w') (hv:v.cells = vs.toArray:=by exact rfl) (hn:vs.length = sz:=by exact rfl) (ho:vs.all zeu = true:=by exact rfl) (hp:Put l off vs l':=by repeat (first | exact Put.nil | apply Put.put | apply Put.skip)):Op1 P (.store T x y) ty ρ w C:=zbC V hT hx hy hv hn ho hsel hp h
theorem Fills.c {place:Nat → Option (Nat × Nat)} {l vs l1 l':List Value} {i:Nat} {x:Operand} {off size:Nat} {v:Value} {rest:List (Nat × Operand)} (hx:ρ x = v) (hp:place i = some (off,size):=by exact rfl) (hv:v.cells = vs.toArray:=by exact rfl) (hn:vs.length = size:=by exact rfl) (hs:Nat.ble 1 size = true:=by exact rfl) (hput:Put l off vs l1:=by repeat (first | exact Put.nil | apply Put.put | apply Put.skip)) (h:Fills ρ place l1 rest l'):Fills ρ place l ((i,x) :: rest) l':=.cons hp hx hv hn hs hput h
theorem Ret.det {g:FuncId} {args:Array Value} (h:Ret P g args w (fun u w'=>u = v ∧ St w NoM [] [] w')) (V:St w0 M L D w) (hk:∀ w':World,St w0 M L D w' → C v w'):Ret P g args w C:=h.mono fun _ w' ⟨e,hp⟩=>by subst e; exact hk w' (V.keepc hp)
theorem zqS {g:FuncId} {args:Array Value} {v2:Value} (h:Ret P g args w (fun u w'=>u = v ∧ St w NoM [] [] w')) (e:v = v2) (V:St w0 M L D w) (hk:∀ w':World,St w0 M L D w' → C v2 w'):Ret P g args w C:=by subst e; exact Ret.det h V hk
end
end Go.SK
namespace Go.SK
open Go.RowKit
abbrev Pp (a b:Nat):Value:=.pointer (some ⟨a,b,none⟩)
abbrev ziS (x0:Int) (x1:List UInt8) (x2:Int):List Value:=[.int .u8 x0,str x1,.int .i64 x2]
abbrev zbZ (x0:Int) (x1:List UInt8) (x2:Int):Value:=.agg #[.int .u8 x0,str x1,.int .i64 x2]
abbrev zbq (x0:Int) (x1:Int) (x2:Int) (x3:Option Addr) (x4 x5:Nat):List Value:=[.int .u16 x0,.int .u32 x1,.int .u32 x2,.slice x3 x4 x5]
abbrev zbf (x0:Int) (x1:Int) (x2:Int) (x3:Option Addr) (x4 x5:Nat):Value:=.agg #[.int .u16 x0,.int .u32 x1,.int .u32 x2,.slice x3 x4 x5]
abbrev zgJ (x0:Int) (x1:Int) (x2:List UInt8):List Value:=[.int .u8 x0,.int .u32 x1,str x2]
abbrev zeK (x0:Int) (x1:Int) (x2:List UInt8):Value:=.agg #[.int .u8 x0,.int .u32 x1,str x2]
abbrev zbz (x0:Int) (x1:List UInt8) (x2:Bool) (x3:Bool) (x4:List UInt8) (x5:List UInt8) (x6:Int) (x7:Int):List Value:=[.int .u16 x0,str x1,.bool x2,.bool x3,str x4,str x5,.int .i64 x6,.int .u8 x7]
abbrev zaO (x0:Int) (x1:List UInt8) (x2:Bool) (x3:Bool) (x4:List UInt8) (x5:List UInt8) (x6:Int) (x7:Int):Value:=.agg #[.int .u16 x0,str x1,.bool x2,.bool x3,str x4,str x5,.int .i64 x6,.int .u8 x7]
abbrev zh8 (x0:Int) (x1:Int) (x2:Option Addr) (x3 x4:Nat):List Value:=[.int .u32 x0,.int .u32 x1,.slice x2 x3 x4]
abbrev zc7 (x0:Int) (x1:Int) (x2:Option Addr) (x3 x4:Nat):Value:=.agg #[.int .u32 x0,.int .u32 x1,.slice x2 x3 x4]
abbrev lII (x0:Int) (x1:Int):List Value:=[.int .i64 x0,.int .i64 x1]
abbrev gII (x0:Int) (x1:Int):Value:=.agg #[.int .i64 x0,.int .i64 x1]
abbrev lHL (x0:Int) (x1:Option Addr) (x2 x3:Nat):List Value:=[.int .u16 x0,.slice x1 x2 x3]
abbrev gHL (x0:Int) (x1:Option Addr) (x2 x3:Nat):Value:=.agg #[.int .u16 x0,.slice x1 x2 x3]
section
variable {P:Program} {b:Base} {k:List Item} {E:Frame → World → Prop} {ops:Array Oper} {f:Nat → Value} {w0 w:World} {M:Nat → Prop} {L D:List Res} {pd:zkE} {tk:zdr} {bs:List Nat} {ds:List (Option Nat)} {i:Nat} {l:List Oper} {ws:Nat → zgM} {n:Nat} {f':Nat → Value} {L':List Res} {w':World}
theorem Know1.z {v:Value} (hc:Know1 tk bs ds f w0 M L D i ws f' L' w'):∃ rs,SK.det v v rs ∧ St w0 M (rs ++ (L' ++ L)) D w':=⟨[],⟨rfl,rfl⟩,hc.st⟩
theorem Know1.d (hc:Know1 tk bs ds f w0 M L D i ws f' L' w') (j:Nat) {t:Nat} {v:Value} (hw:zmx (bs.getD i 0) j = true) (hd:ds.getD j none = some t) (hj:ws j = cw (SK.det v)) (ht:Nat.blt t n = true):ev n f' (.tmp t) = v:=hc.det hw hd hj ht
theorem DO {v:Value} {d:Option Tmp} {op:Op} {ty:TypeId} {pos:String} {aft:Array Edge} (htab:DrawTab ops bs ds) (i':Nat)
    (hv:∀ f' L' w',Know1 tk bs ds f w0 M L D i ws f' L' w' → Op1 P op ty (ev b.n f') w' (fun u w''=>∃ rs,SK.det v u rs ∧ St w0 M (rs ++ (L' ++ L)) D w''))
    (h:RunD tk pd P b ops bs ds k E f w0 M L D w i' l (zou ws i (cw (SK.det v)))) (hi:i + 1 = i':=by rfl) (hd:zcW op = false:=by rfl) (hp:(pd.all fun p=>!(Nat.beq p.1 i)) = true:=by rfl) (hk:zs6 tk i = true:=by rfl):RunD tk pd P b ops bs ds k E f w0 M L D w i (⟨d,op,ty,pos,aft,none⟩ :: l) ws:=RunD.op (SK.det v) htab i' hv h hi hd hp hk
end
theorem zbt {n:Int} (h1:-9223372036854775808 ≤ n:=by omega) (h2:n ≤ 9223372036854775807:=by omega):IntKind.i64.wrap n = n:=zpR h1 h2
theorem Wi32 {n:Int} (h1:-2147483648 ≤ n:=by omega) (h2:n ≤ 2147483647:=by omega):IntKind.i32.wrap n = n:=zvo h1 h2
theorem Wu8 {n:Int} (h1:0 ≤ n:=by omega) (h2:n ≤ 255:=by omega):IntKind.u8.wrap n = n:=zsM h1 h2
theorem zsa {n:Int} (h1:0 ≤ n:=by omega) (h2:n ≤ 4294967295:=by omega):IntKind.u32.wrap n = n:=wrap_u32 h1 h2
theorem zgL {n:Int} (h1:0 ≤ n:=by omega) (h2:n ≤ 18446744073709551615:=by omega):IntKind.u64.wrap n = n:=zvm h1 h2
theorem Rem.u0 {r:Res} {L:List Res}:Rem r (r :: L) (L):=.here
theorem Sel.u0 {r r':Res} {L:List Res}:Sel r r' (r :: L) (r' :: L):=.here
theorem Q0 {α:Type} {y:α} {L:List α}:List.Mem y (y :: L):=.head _
theorem Rem.u1 {r:Res} {x0:Res} {L:List Res}:Rem r (x0 :: r :: L) (x0 :: L):=.there .here
theorem Sel.u1 {r r':Res} {x0:Res} {L:List Res}:Sel r r' (x0 :: r :: L) (x0 :: r' :: L):=.there .here
theorem Q1 {α:Type} {y:α} {x0:α} {L:List α}:List.Mem y (x0 :: y :: L):=.tail _ (.head _)
theorem Rem.u2 {r:Res} {x0 x1:Res} {L:List Res}:Rem r (x0 :: x1 :: r :: L) (x0 :: x1 :: L):=.there (.there .here)
theorem Sel.u2 {r r':Res} {x0 x1:Res} {L:List Res}:Sel r r' (x0 :: x1 :: r :: L) (x0 :: x1 :: r' :: L):=.there (.there .here)
theorem Q2 {α:Type} {y:α} {x0 x1:α} {L:List α}:List.Mem y (x0 :: x1 :: y :: L):=.tail _ (.tail _ (.head _))
theorem Rem.u3 {r:Res} {x0 x1 x2:Res} {L:List Res}:Rem r (x0 :: x1 :: x2 :: r :: L) (x0 :: x1 :: x2 :: L):=.there (.there (.there .here))
theorem Sel.u3 {r r':Res} {x0 x1 x2:Res} {L:List Res}:Sel r r' (x0 :: x1 :: x2 :: r :: L) (x0 :: x1 :: x2 :: r' :: L):=.there (.there (.there .here))
theorem Q3 {α:Type} {y:α} {x0 x1 x2:α} {L:List α}:List.Mem y (x0 :: x1 :: x2 :: y :: L):=.tail _ (.tail _ (.tail _ (.head _)))
theorem Rem.u4 {r:Res} {x0 x1 x2 x3:Res} {L:List Res}:Rem r (x0 :: x1 :: x2 :: x3 :: r :: L) (x0 :: x1 :: x2 :: x3 :: L):=.there (.there (.there (.there .here)))
theorem Sel.u4 {r r':Res} {x0 x1 x2 x3:Res} {L:List Res}:Sel r r' (x0 :: x1 :: x2 :: x3 :: r :: L) (x0 :: x1 :: x2 :: x3 :: r' :: L):=.there (.there (.there (.there .here)))
theorem Q4 {α:Type} {y:α} {x0 x1 x2 x3:α} {L:List α}:List.Mem y (x0 :: x1 :: x2 :: x3 :: y :: L):=.tail _ (.tail _ (.tail _ (.tail _ (.head _))))
theorem Rem.u5 {r:Res} {x0 x1 x2 x3 x4:Res} {L:List Res}:Rem r (x0 :: x1 :: x2 :: x3 :: x4 :: r :: L) (x0 :: x1 :: x2 :: x3 :: x4 :: L):=.there (.there (.there (.there (.there .here))))
theorem Sel.u5 {r r':Res} {x0 x1 x2 x3 x4:Res} {L:List Res}:Sel r r' (x0 :: x1 :: x2 :: x3 :: x4 :: r :: L) (x0 :: x1 :: x2 :: x3 :: x4 :: r' :: L):=.there (.there (.there (.there (.there .here))))
theorem Q5 {α:Type} {y:α} {x0 x1 x2 x3 x4:α} {L:List α}:List.Mem y (x0 :: x1 :: x2 :: x3 :: x4 :: y :: L):=.tail _ (.tail _ (.tail _ (.tail _ (.tail _ (.head _)))))
theorem Rem.u6 {r:Res} {x0 x1 x2 x3 x4 x5:Res} {L:List Res}:Rem r (x0 :: x1 :: x2 :: x3 :: x4 :: x5 :: r :: L) (x0 :: x1 :: x2 :: x3 :: x4 :: x5 :: L):=.there (.there (.there (.there (.there (.there .here)))))
theorem Sel.u6 {r r':Res} {x0 x1 x2 x3 x4 x5:Res} {L:List Res}:Sel r r' (x0 :: x1 :: x2 :: x3 :: x4 :: x5 :: r :: L) (x0 :: x1 :: x2 :: x3 :: x4 :: x5 :: r' :: L):=.there (.there (.there (.there (.there (.there .here)))))
theorem Q6 {α:Type} {y:α} {x0 x1 x2 x3 x4 x5:α} {L:List α}:List.Mem y (x0 :: x1 :: x2 :: x3 :: x4 :: x5 :: y :: L):=.tail _ (.tail _ (.tail _ (.tail _ (.tail _ (.tail _ (.head _))))))
theorem Q7 {α:Type} {y:α} {x0 x1 x2 x3 x4 x5 x6:α} {L:List α}:List.Mem y (x0 :: x1 :: x2 :: x3 :: x4 :: x5 :: x6 :: y :: L):=.tail _ (.tail _ (.tail _ (.tail _ (.tail _ (.tail _ (.tail _ (.head _)))))))
theorem Rem.u8 {r:Res} {x0 x1 x2 x3 x4 x5 x6 x7:Res} {L:List Res}:Rem r (x0 :: x1 :: x2 :: x3 :: x4 :: x5 :: x6 :: x7 :: r :: L) (x0 :: x1 :: x2 :: x3 :: x4 :: x5 :: x6 :: x7 :: L):=.there (.there (.there (.there (.there (.there (.there (.there .here)))))))
theorem Sel.u8 {r r':Res} {x0 x1 x2 x3 x4 x5 x6 x7:Res} {L:List Res}:Sel r r' (x0 :: x1 :: x2 :: x3 :: x4 :: x5 :: x6 :: x7 :: r :: L) (x0 :: x1 :: x2 :: x3 :: x4 :: x5 :: x6 :: x7 :: r' :: L):=.there (.there (.there (.there (.there (.there (.there (.there .here)))))))
theorem Rem.u16 {r:Res} {x0 x1 x2 x3 x4 x5 x6 x7 x8 x9 x10 x11 x12 x13 x14 x15:Res} {L:List Res}:Rem r (x0 :: x1 :: x2 :: x3 :: x4 :: x5 :: x6 :: x7 :: x8 :: x9 :: x10 :: x11 :: x12 :: x13 :: x14 :: x15 :: r :: L) (x0 :: x1 :: x2 :: x3 :: x4 :: x5 :: x6 :: x7 :: x8 :: x9 :: x10 :: x11 :: x12 :: x13 :: x14 :: x15 :: L):=.there (.there (.there (.there (.there (.there (.there (.there (.there (.there (.there (.there (.there (.there (.there (.there .here)))))))))))))))
theorem Sel.u16 {r r':Res} {x0 x1 x2 x3 x4 x5 x6 x7 x8 x9 x10 x11 x12 x13 x14 x15:Res} {L:List Res}:Sel r r' (x0 :: x1 :: x2 :: x3 :: x4 :: x5 :: x6 :: x7 :: x8 :: x9 :: x10 :: x11 :: x12 :: x13 :: x14 :: x15 :: r :: L) (x0 :: x1 :: x2 :: x3 :: x4 :: x5 :: x6 :: x7 :: x8 :: x9 :: x10 :: x11 :: x12 :: x13 :: x14 :: x15 :: r' :: L):=.there (.there (.there (.there (.there (.there (.there (.there (.there (.there (.there (.there (.there (.there (.there (.there .here)))))))))))))))
theorem E2 {f:Nat → Value} {t0 t1:Nat}:Slots f [(t0,f t0),(t1,f t1)]:=⟨rfl,rfl,trivial⟩
theorem E3 {f:Nat → Value} {t0 t1 t2:Nat}:Slots f [(t0,f t0),(t1,f t1),(t2,f t2)]:=⟨rfl,rfl,rfl,trivial⟩
theorem E4 {f:Nat → Value} {t0 t1 t2 t3:Nat}:Slots f [(t0,f t0),(t1,f t1),(t2,f t2),(t3,f t3)]:=⟨rfl,rfl,rfl,rfl,trivial⟩
theorem E5 {f:Nat → Value} {t0 t1 t2 t3 t4:Nat}:Slots f [(t0,f t0),(t1,f t1),(t2,f t2),(t3,f t3),(t4,f t4)]:=⟨rfl,rfl,rfl,rfl,rfl,trivial⟩
theorem E6 {f:Nat → Value} {t0 t1 t2 t3 t4 t5:Nat}:Slots f [(t0,f t0),(t1,f t1),(t2,f t2),(t3,f t3),(t4,f t4),(t5,f t5)]:=⟨rfl,rfl,rfl,rfl,rfl,rfl,trivial⟩
theorem E7 {f:Nat → Value} {t0 t1 t2 t3 t4 t5 t6:Nat}:Slots f [(t0,f t0),(t1,f t1),(t2,f t2),(t3,f t3),(t4,f t4),(t5,f t5),(t6,f t6)]:=⟨rfl,rfl,rfl,rfl,rfl,rfl,rfl,trivial⟩
theorem E10 {f:Nat → Value} {t0 t1 t2 t3 t4 t5 t6 t7 t8 t9:Nat}:Slots f [(t0,f t0),(t1,f t1),(t2,f t2),(t3,f t3),(t4,f t4),(t5,f t5),(t6,f t6),(t7,f t7),(t8,f t8),(t9,f t9)]:=⟨rfl,rfl,rfl,rfl,rfl,rfl,rfl,rfl,rfl,rfl,trivial⟩
theorem E11 {f:Nat → Value} {t0 t1 t2 t3 t4 t5 t6 t7 t8 t9 t10:Nat}:Slots f [(t0,f t0),(t1,f t1),(t2,f t2),(t3,f t3),(t4,f t4),(t5,f t5),(t6,f t6),(t7,f t7),(t8,f t8),(t9,f t9),(t10,f t10)]:=⟨rfl,rfl,rfl,rfl,rfl,rfl,rfl,rfl,rfl,rfl,rfl,trivial⟩
theorem E12 {f:Nat → Value} {t0 t1 t2 t3 t4 t5 t6 t7 t8 t9 t10 t11:Nat}:Slots f [(t0,f t0),(t1,f t1),(t2,f t2),(t3,f t3),(t4,f t4),(t5,f t5),(t6,f t6),(t7,f t7),(t8,f t8),(t9,f t9),(t10,f t10),(t11,f t11)]:=⟨rfl,rfl,rfl,rfl,rfl,rfl,rfl,rfl,rfl,rfl,rfl,rfl,trivial⟩
theorem rg2:List.range 2 = [0,1]:=rfl
theorem rg4:List.range 4 = [0,1,2,3]:=rfl
theorem rg6:List.range 6 = [0,1,2,3,4,5]:=rfl
theorem rg7:List.range 7 = [0,1,2,3,4,5,6]:=rfl
theorem rg8:List.range 8 = [0,1,2,3,4,5,6,7]:=rfl
theorem rg9:List.range 9 = [0,1,2,3,4,5,6,7,8]:=rfl
theorem rg10:List.range 10 = [0,1,2,3,4,5,6,7,8,9]:=rfl
theorem rg13:List.range 13 = [0,1,2,3,4,5,6,7,8,9,10,11,12]:=rfl
theorem zyR:List.range 14 = [0,1,2,3,4,5,6,7,8,9,10,11,12,13]:=rfl
theorem rg21:List.range 21 = [0,1,2,3,4,5,6,7,8,9,10,11,12,13,14,15,16,17,18,19,20]:=rfl
theorem Fc {α β:Type} {f:α → List β} {a:α} {l:List α}:(a :: l).flatMap f = f a ++ l.flatMap f:=List.flatMap_cons
theorem Fn {α β:Type} {f:α → List β}:([]:List α).flatMap f = []:=List.flatMap_nil
theorem Mc {α β:Type} {f:α → β} {a:α} {l:List α}:(a :: l).map f = f a :: l.map f:=List.map_cons
theorem Mn {α β:Type} {f:α → β}:([]:List α).map f = []:=List.map_nil
theorem Na {α:Type} (l:List α):[] ++ l = l:=List.nil_append l
theorem An {α:Type} (l:List α):l ++ [] = l:=List.append_nil l
theorem Ca {α:Type} (a:α) (l m:List α):a :: l ++ m = a :: (l ++ m):=List.cons_append
theorem Ex {P:Program} {ty:TypeId} {ρ:Operand → Value} {w:World} {C:Value → World → Prop} {x:Operand} {i:Nat} {vs:List Value} (v:Value) (hx:ρ x = .tuple vs.toArray) (hv:vs[i]? = some v) (hc:C v w):Op1 P (.extract x i) ty ρ w C:=zbM hx hv hc
end Go.SK
namespace Go.SK
abbrev Tx:=List UInt8
def zgI (c:UInt8):Bool:=decide (65 ≤ c.toNat ∧ c.toNat ≤ 90 ∨ 97 ≤ c.toNat ∧ c.toNat ≤ 122 ∨ c.toNat = 95)
def zej (c:UInt8):Bool:=decide (48 ≤ c.toNat ∧ c.toNat ≤ 57)
def zb1 (c:UInt8):Bool:=decide (c.toNat = 9 ∨ c.toNat = 13 ∨ c.toNat = 32)
def zkm (c:UInt8):Bool:=zgI c || zej c
def zcj (s:Tx):Tx:=s.takeWhile zkm
def zeG (c:UInt8):Bool:=decide (48 ≤ c.toNat ∧ c.toNat ≤ 57 ∨ 97 ≤ c.toNat ∧ c.toNat ≤ 102 ∨ 65 ≤ c.toNat ∧ c.toNat ≤ 70)
def zfE (c:UInt8):Nat:=if c.toNat ≤ 57 then c.toNat - 48 else if 97 ≤ c.toNat then c.toNat - 87 else c.toNat - 55
def zcD:Tx → Nat → Option Nat
  | [],n=>some n
  | c :: r,n=>if zej c = true then zcD r (10 * n + (c.toNat - 48)) else none
def zcX:Tx → Nat → Option Nat
  | [],n=>some n
  | c :: r,n=>if zeG c = true then zcX r (16 * n + zfE c) else none
def zba (s:Tx):Option Nat:=if s.length = 0 ∨ 10 < s.length ∨ (1 < s.length ∧ (s.getD 0 0).toNat = 48) then none else (zcD s 0).bind fun n=>if n < 4294967296 then some n else none
def za3 (s:Tx):Int × Int :=
  match zba s with
  | some n=>((n:Int),0)
  | none =>
    if 1 < s.length ∧ (s.getD 0 0).toNat = 45 then
      match zba (s.drop 1) with
      | some n=>if 1 ≤ n ∧ n ≤ 2147483648 then (4294967296 - (n:Int),0) else (0,62)
      | none=>(0,62)
    else if s.length < 3 ∨ 10 < s.length ∨ (s.getD 0 0).toNat ≠ 48 ∨ (s.getD 1 0).toNat ≠ 120 then (0,62)
    else match zcX (s.drop 2) 0 with
      | some n=>((n:Int),0)
      | none=>(0,62)
def zcv:Tx → Option (UInt8 × Nat)
  | []=>none
  | c :: r =>
    if c.toNat < 32 ∨ 126 < c.toNat ∨ c.toNat = 34 then none
    else if c.toNat ≠ 92 then some (c,1)
    else if 0 < r.length ∧ ((r.getD 0 0).toNat = 34 ∨ (r.getD 0 0).toNat = 92) then some (r.getD 0 0,2)
    else if 2 < r.length ∧ (r.getD 0 0).toNat = 120 ∧ zeG (r.getD 1 0) = true ∧ zeG (r.getD 2 0) = true then some (UInt8.ofNat (16 * zfE (r.getD 1 0) + zfE (r.getD 2 0)),4)
    else none
def quoN:Nat → Tx → Option (Tx × Nat)
  | 0,_=>none
  | n + 1, s =>
    if s.length = 0 then none
    else if (s.getD 0 0).toNat = 34 then some ([],1)
    else match zcv s with
      | none=>none
      | some (c,k)=>(quoN n (s.drop k)).map fun q=>(c :: q.1,k + q.2)
structure TokL where
  kind:Int
  text:Tx
  at_:Int
  deriving DecidableEq
def zfF (s:Tx):Except Int (Int × Tx × Nat) :=
  let c:=s.getD 0 0
  if zgI c = true then .ok (1,zcj s,(zcj s).length)
  else if c.toNat = 37 then
    let t:=zcj (s.drop 1)
    if (zba t).isSome = true then .ok (2,t,t.length + 1) else .error 62
  else if zej c = true ∨ c.toNat = 45 then
    let t:=s.take (1 + (zcj (s.drop 1)).length)
    if (za3 t).2 = 0 then .ok (3,t,t.length) else .error 62
  else if c.toNat = 34 then
    match quoN (s.drop 1).length (s.drop 1) with
    | none=>.error 61
    | some (t,n)=>.ok (4,t,n + 1)
  else if c.toNat = 61 then .ok (5,[61],1)
  else .error 60
def zcU:Nat → Tx → Nat → List TokL × (Int × Int)
  | 0,_,_=>([],(0,0))
  | n + 1, s, k =>
    if s.length = 0 ∨ (s.getD 0 0).toNat = 59 then ([],(0,0))
    else if zb1 (s.getD 0 0) = true then zcU n (s.drop 1) (k + 1)
    else match zfF s with
      | .error e=>([],(e,(k:Int)))
      | .ok (kd, t, m) =>
        let r:=zcU n (s.drop m) (k + m)
        if r.2.1 = 0 then (⟨kd,t,(k:Int)⟩ :: r.1,(0,0)) else ([],r.2)
def zbn (s:Tx):List TokL × (Int × Int):=zcU s.length s 0
def zl4 (n:Nat):UInt8:=if n < 10 then UInt8.ofNat (48 + n) else UInt8.ofNat (87 + n)
def ziO (c:UInt8):Tx:=if c.toNat < 32 ∨ 126 < c.toNat then [92,120,zl4 (c.toNat / 16),zl4 (c.toNat % 16)] else if c.toNat = 34 ∨ c.toNat = 92 then [92,c] else [c]
def zd7 (s:Tx):Tx:=34 :: (s.flatMap ziO ++ [34])
def wrT (t:TokL):Option Tx :=
  if t.kind = 1 then (if 0 < t.text.length ∧ zgI (t.text.getD 0 0) = true ∧ zcj t.text = t.text then some t.text else none)
  else if t.kind = 2 then (if (zba t.text).isSome = true then some (37 :: t.text) else none)
  else if t.kind = 3 then (if (za3 t.text).2 = 0 then some t.text else none)
  else if t.kind = 4 then some (zd7 t.text)
  else if t.kind = 5 then (if t.text = [61] then some [61] else none)
  else none
def wrR:List TokL → Option Tx
  | []=>some []
  | t :: r=>(wrT t).bind fun a=>(wrR r).map fun b=>32 :: (a ++ b)
def wrF:List TokL → Option Tx
  | []=>some []
  | t :: r=>(wrT t).bind fun a=>(wrR r).map fun b=>a ++ b
def zeV (c:UInt8):Int:=if zb1 c = true then 1 else if zgI c = true then 2 else if zej c = true then 3 else 0
theorem zem {c:UInt8} (h:c.toNat = 9 ∨ c.toNat = 13 ∨ c.toNat = 32):zeV c = 1:=by
  unfold zeV; rw [if_pos (show zb1 c = true from Dt h)]
theorem zel {c:UInt8} (h0:¬ (c.toNat = 9 ∨ c.toNat = 13 ∨ c.toNat = 32)) (h:65 ≤ c.toNat ∧ c.toNat ≤ 90 ∨ 97 ≤ c.toNat ∧ c.toNat ≤ 122 ∨ c.toNat = 95):zeV c = 2:=by
  unfold zeV; rw [if_neg (by unfold zb1; simpa using h0),if_pos (show zgI c = true from Dt h)]
theorem zek {c:UInt8} (h0:48 ≤ c.toNat ∧ c.toNat ≤ 57):zeV c = 3:=by
  unfold zeV; rw [if_neg (by unfold zb1; simp; omega),if_neg (by unfold zgI; simp; omega),if_pos (show zej c = true from Dt h0)]
theorem zen {c:UInt8} (h0:¬ (c.toNat = 9 ∨ c.toNat = 13 ∨ c.toNat = 32)) (h1:¬ (65 ≤ c.toNat ∧ c.toNat ≤ 90 ∨ 97 ≤ c.toNat ∧ c.toNat ≤ 122 ∨ c.toNat = 95)) (h2:¬ (48 ≤ c.toNat ∧ c.toNat ≤ 57)):zeV c = 0:=by
  unfold zeV; rw [if_neg (by unfold zb1; simpa using h0),if_neg (by unfold zgI; simpa using h1),if_neg (by unfold zej; simpa using h2)]
theorem znl {c:UInt8} (h:zgI c = true):zb1 c = false:=by
  unfold zgI at h; unfold zb1; simp only [decide_eq_true_eq] at h; simp; omega
theorem znQ {c:UInt8} (h:zej c = true):zb1 c = false:=by
  unfold zej at h; unfold zb1; simp only [decide_eq_true_eq] at h; simp; omega
theorem zuj {c:UInt8} (h:zej c = true):zgI c = false:=by
  unfold zej at h; unfold zgI; simp only [decide_eq_true_eq] at h; simp; omega
theorem zgl (c:UInt8):(zeV c = 1 ∧ zb1 c = true ∧ zgI c = false ∧ zej c = false) ∨ (zeV c = 2 ∧ zb1 c = false ∧ zgI c = true ∧ zej c = false) ∨ (zeV c = 3 ∧ zb1 c = false ∧ zgI c = false ∧ zej c = true) ∨ (zeV c = 0 ∧ zb1 c = false ∧ zgI c = false ∧ zej c = false):=by
  unfold zeV
  cases hl:zgI c with
  | true =>
    rw [znl hl]
    cases hd:zej c with
    | true=>rw [zuj hd] at hl; cases hl
    | false=>simp
  | false =>
    cases hd:zej c with
    | true=>rw [znQ hd]; simp
    | false=>cases hb:zb1 c <;> simp
theorem zqo (c:UInt8):2 ≤ zeV c ↔ zkm c = true:=by
  unfold zkm; rcases zgl c with ⟨e,b,l,d⟩ | ⟨e,b,l,d⟩ | ⟨e,b,l,d⟩ | ⟨e,b,l,d⟩ <;> rw [e,l,d] <;> simp
theorem ziT (c:UInt8):zeV c = 2 ↔ zgI c = true:=by
  rcases zgl c with ⟨e,b,l,d⟩ | ⟨e,b,l,d⟩ | ⟨e,b,l,d⟩ | ⟨e,b,l,d⟩ <;> rw [e,l] <;> simp
theorem zl0 (c:UInt8):zeV c = 3 ↔ zej c = true:=by
  rcases zgl c with ⟨e,b,l,d⟩ | ⟨e,b,l,d⟩ | ⟨e,b,l,d⟩ | ⟨e,b,l,d⟩ <;> rw [e,d] <;> simp
theorem zh9 (c:UInt8):zeV c = 1 ↔ zb1 c = true:=by
  rcases zgl c with ⟨e,b,l,d⟩ | ⟨e,b,l,d⟩ | ⟨e,b,l,d⟩ | ⟨e,b,l,d⟩ <;> rw [e,b] <;> simp
theorem zmd {s:Tx} {i:Nat} (h:i < s.length):s.drop i = s.getD i 0 :: s.drop (i + 1):=by
  rw [List.drop_eq_getElem_cons h]; simp [List.getD,h]
theorem zfT (s:Tx) (i k:Nat):(s.drop i).getD k 0 = s.getD (i + k) 0:=by
  simp [List.getD,List.getElem?_drop]
theorem zlK {s:Tx} {i:Nat} (h:i < s.length) (hr:zkm (s.getD i 0) = true):(zcj (s.drop i)).length = 1 + (zcj (s.drop (i + 1))).length:=by
  unfold zcj; rw [zmd h,List.takeWhile_cons,if_pos hr,List.length_cons]; omega
theorem zvP {s:Tx} {i:Nat} (h:i < s.length) (hr:¬ zkm (s.getD i 0) = true):(zcj (s.drop i)).length = 0:=by
  unfold zcj; rw [zmd h,List.takeWhile_cons,if_neg hr]; rfl
theorem zx0 {s:Tx} {i:Nat} (h:s.length ≤ i):(zcj (s.drop i)).length = 0:=by
  rw [List.drop_eq_nil_of_le h]; rfl
theorem zjq (s:Tx) {n:Nat} (h:(zcj s).length = n):s.take n = zcj s:=by
  subst h; unfold zcj
  induction s with
  | nil=>rfl
  | cons c r ih => rw [List.takeWhile_cons]; split
                   · rw [List.length_cons,List.take_succ_cons,ih]
                   · rfl
theorem zlM (s:Tx):(zcj s).length ≤ s.length:=by
  unfold zcj; exact (List.takeWhile_sublist _).length_le
theorem run_l {c:UInt8} (h:zgI c = true):zkm c = true:=by unfold zkm; rw [h]; rfl
theorem run_d {c:UInt8} (h:zej c = true):zkm c = true:=by unfold zkm; rw [h,Bool.or_true]
def zpi (s:Tx):Prop:=s.length = 0 ∨ 10 < s.length ∨ (1 < s.length ∧ (s.getD 0 0).toNat = 48)
instance (s:Tx):Decidable (zpi s):=by unfold zpi; infer_instance
def plR (s:Tx):Nat:=if zpi s then 0 else (zcD s 0).getD 0
theorem zd8 (s:Tx):zba s = if zpi s then none else (zcD s 0).bind fun n=>if n < 4294967296 then some n else none:=rfl
theorem zoU {s:Tx} (h:zpi s):plR s = 0 ∧ (zba s).isSome = false:=by
  rw [zd8]; unfold plR; rw [if_pos h,if_pos h]; exact ⟨rfl,rfl⟩
theorem zlS {s:Tx} (h:¬ zpi s) (hd:zcD s 0 = none):plR s = 0 ∧ (zba s).isSome = false:=by
  rw [zd8]; unfold plR; rw [if_neg h,if_neg h,hd]; exact ⟨rfl,rfl⟩
theorem zqb {s:Tx} {n:Nat} (h:¬ zpi s) (hd:zcD s 0 = some n):plR s = n ∧ (zba s).isSome = decide (n < 4294967296):=by
  rw [zd8]; unfold plR; rw [if_neg h,if_neg h,hd]
  refine ⟨rfl,?_⟩
  show (if n < 4294967296 then some n else none).isSome = _
  split <;> rename_i h1 <;> simp [h1]
theorem zqc {s:Tx} {n:Nat} (h:zba s = some n):plR s = n ∧ n < 4294967296:=by
  by_cases hb:zpi s
  · have:=(zoU hb).2; rw [h] at this; cases this
  · cases hd : zcD s 0 with
    | none=>have:=(zlS hb hd).2; rw [h] at this; cases this
    | some m =>
      have e:=zqb hb hd
      rw [h] at e; simp at e
      refine ⟨?_,?_⟩
      · have : zba s = some m := by rw [zd8, if_neg hb, hd]; show (if m < 4294967296 then some m else none) = _; rw [if_pos e.2]
        rw [h] at this; cases this; exact e.1
      · have : zba s = some m := by rw [zd8, if_neg hb, hd]; show (if m < 4294967296 then some m else none) = _; rw [if_pos e.2]
        rw [h] at this; cases this; exact e.2
theorem zlc {c:UInt8} (h:zej c = true):48 ≤ c.toNat ∧ c.toNat ≤ 57:=by unfold zej at h; simpa using h
theorem zgK {c:UInt8} (h:zeG c = true):(48 ≤ c.toNat ∧ c.toNat ≤ 57 ∨ 97 ≤ c.toNat ∧ c.toNat ≤ 102 ∨ 65 ≤ c.toNat ∧ c.toNat ≤ 70) ∧ zfE c ≤ 15:=by
  unfold zeG at h; simp only [decide_eq_true_eq] at h
  refine ⟨h,?_⟩
  unfold zfE; split
  · omega
  · split <;> omega
theorem zeX {s:Tx} {i n:Nat} (h:i < s.length) (hd:zeG (s.getD i 0) = true):zcX (s.drop i) n = zcX (s.drop (i + 1)) (16 * n + zfE (s.getD i 0)):=by
  rw [zmd h,zcX,if_pos hd]
theorem zco {s:Tx} {i n:Nat} (h:i < s.length) (hd:¬ zeG (s.getD i 0) = true):zcX (s.drop i) n = none:=by
  rw [zmd h,zcX,if_neg hd]
theorem zwc {s:Tx} {i n:Nat} (h:s.length ≤ i):zcX (s.drop i) n = some n:=by
  rw [List.drop_eq_nil_of_le h]; rfl
theorem zvX {i:Nat} (h:i ≤ 7):16 ^ i ≤ 268435456:=by
  have:16 ^ i ≤ 16 ^ 7:=Nat.pow_le_pow_right O h
  omega
theorem zdt {i n d:Nat} (h:n < 16 ^ i) (hd:d ≤ 15):16 * n + d < 16 ^ (i + 1):=by rw [Nat.pow_succ]; omega
theorem zgi {s:Tx} {n:Nat} (h:zba s = some n):za3 s = ((n:Int),0):=by unfold za3; rw [h]
theorem zrD {s:Tx} {n:Nat} (h:zba s = none) (h1:1 < s.length ∧ (s.getD 0 0).toNat = 45) (h2:zba (s.drop 1) = some n) (h3:1 ≤ n ∧ n ≤ 2147483648):za3 s = (4294967296 - (n:Int),0):=by
  unfold za3; rw [h]; dsimp only; rw [if_pos h1,h2]; dsimp only; rw [if_pos h3]
theorem zhs {s:Tx} (h:zba s = none) (h1:1 < s.length ∧ (s.getD 0 0).toNat = 45) (h2:∀ n,zba (s.drop 1) = some n → ¬ (1 ≤ n ∧ n ≤ 2147483648)):za3 s = (0,62):=by
  unfold za3; rw [h]; dsimp only; rw [if_pos h1]
  cases h4:zba (s.drop 1) with
  | none=>rfl
  | some n=>dsimp only; rw [if_neg (h2 n h4)]
theorem ziP {s:Tx} (h:zba s = none) (h1:¬ (1 < s.length ∧ (s.getD 0 0).toNat = 45)) (h2:s.length < 3 ∨ 10 < s.length ∨ (s.getD 0 0).toNat ≠ 48 ∨ (s.getD 1 0).toNat ≠ 120):za3 s = (0,62):=by
  unfold za3; rw [h]; dsimp only; rw [if_neg h1,if_pos h2]
theorem zqk {s:Tx} {n:Nat} (h:zba s = none) (h1:¬ (1 < s.length ∧ (s.getD 0 0).toNat = 45)) (h2:¬ (s.length < 3 ∨ 10 < s.length ∨ (s.getD 0 0).toNat ≠ 48 ∨ (s.getD 1 0).toNat ≠ 120)) (h3:zcX (s.drop 2) 0 = some n):za3 s = ((n:Int),0):=by
  unfold za3; rw [h]; dsimp only; rw [if_neg h1,if_neg h2,h3]
theorem zgT {s:Tx} (h:zba s = none) (h1:¬ (1 < s.length ∧ (s.getD 0 0).toNat = 45)) (h2:¬ (s.length < 3 ∨ 10 < s.length ∨ (s.getD 0 0).toNat ≠ 48 ∨ (s.getD 1 0).toNat ≠ 120)) (h3:zcX (s.drop 2) 0 = none):za3 s = (0,62):=by
  unfold za3; rw [h]; dsimp only; rw [if_neg h1,if_neg h2,h3]
theorem not_t {b:Bool} (h:(!b) = true):¬ b = true:=by cases b <;> simp_all
theorem not_f {b:Bool} (h:(!b) = false):b = true:=by cases b <;> simp_all
theorem zhu {α:Type} {o:Option α} (h:o.isSome = true):∃ a,o = some a:=by cases o with
  | none=>cases h
  | some a=>exact ⟨a,rfl⟩
theorem znn {α:Type} {o:Option α} (h:o.isSome = false):o = none:=by cases o with
  | none=>rfl
  | some a=>cases h
def zm7 (s:Tx) (a:Nat):Option (UInt8 × Nat) :=
  if (s.getD a 0).toNat < 32 ∨ 126 < (s.getD a 0).toNat ∨ (s.getD a 0).toNat = 34 then none
  else if (s.getD a 0).toNat ≠ 92 then some (s.getD a 0,1)
  else if 0 < s.length - (a + 1) ∧ ((s.getD (a + 1) 0).toNat = 34 ∨ (s.getD (a + 1) 0).toNat = 92) then some (s.getD (a + 1) 0,2)
  else if 2 < s.length - (a + 1) ∧ (s.getD (a + 1) 0).toNat = 120 ∧ zeG (s.getD (a + 2) 0) = true ∧ zeG (s.getD (a + 3) 0) = true then some (UInt8.ofNat (16 * zfE (s.getD (a + 2) 0) + zfE (s.getD (a + 3) 0)),4)
  else none
theorem zd9 {s:Tx} {a:Nat} (h:a < s.length):zcv (s.drop a) = zm7 s a:=by
  rw [zmd h,zcv]
  have e0:(s.drop (a + 1)).getD 0 0 = s.getD (a + 1) 0:=by rw [zfT]
  have e1:(s.drop (a + 1)).getD 1 0 = s.getD (a + 2) 0:=by rw [zfT]
  have e2:(s.drop (a + 1)).getD 2 0 = s.getD (a + 3) 0:=by rw [zfT]
  rw [e0,e1,e2,List.length_drop]; rfl
theorem zqh {s:Tx} {a:Nat} (h:a < s.length) (h1:(s.getD a 0).toNat < 32 ∨ 126 < (s.getD a 0).toNat ∨ (s.getD a 0).toNat = 34):zcv (s.drop a) = none:=by
  rw [zd9 h]; unfold zm7; rw [if_pos h1]
theorem zqf {s:Tx} {a:Nat} (h:a < s.length) (h1:¬ ((s.getD a 0).toNat < 32 ∨ 126 < (s.getD a 0).toNat ∨ (s.getD a 0).toNat = 34)) (h2:(s.getD a 0).toNat ≠ 92):zcv (s.drop a) = some (s.getD a 0,1):=by
  rw [zd9 h]; unfold zm7; rw [if_neg h1,if_pos h2]
theorem zqd {s:Tx} {a:Nat} (h:a < s.length) (h2:(s.getD a 0).toNat = 92) (h3:a + 1 < s.length) (h4:(s.getD (a + 1) 0).toNat = 34 ∨ (s.getD (a + 1) 0).toNat = 92):zcv (s.drop a) = some (s.getD (a + 1) 0,2):=by
  rw [zd9 h]; unfold zm7; rw [if_neg (by omega),if_neg (by omega),if_pos ⟨by omega,h4⟩]
theorem zm6 {s:Tx} {a:Nat} (h:a < s.length) (h2:(s.getD a 0).toNat = 92) (h3:a + 3 < s.length) (h4:(s.getD (a + 1) 0).toNat = 120) (h5:zeG (s.getD (a + 2) 0) = true) (h6:zeG (s.getD (a + 3) 0) = true):zcv (s.drop a) = some (UInt8.ofNat (16 * zfE (s.getD (a + 2) 0) + zfE (s.getD (a + 3) 0)),4):=by
  rw [zd9 h]; unfold zm7; rw [if_neg (by omega),if_neg (by omega),if_neg (by omega),if_pos ⟨by omega,h4,h5,h6⟩]
theorem zqg {s:Tx} {a:Nat} (h:a < s.length) (h2:(s.getD a 0).toNat = 92) (h3:¬ (a + 1 < s.length ∧ ((s.getD (a + 1) 0).toNat = 34 ∨ (s.getD (a + 1) 0).toNat = 92))) (h4:¬ (a + 3 < s.length ∧ (s.getD (a + 1) 0).toNat = 120 ∧ zeG (s.getD (a + 2) 0) = true ∧ zeG (s.getD (a + 3) 0) = true)):zcv (s.drop a) = none:=by
  rw [zd9 h]; unfold zm7; rw [if_neg (by omega),if_neg (by omega),if_neg (fun q=>h3 ⟨by omega,q.2⟩),if_neg (fun q=>h4 ⟨by omega,q.2⟩)]
theorem zhq {s:Tx} {a:Nat} {c:UInt8} {k:Nat} (h:a < s.length) (e:zcv (s.drop a) = some (c,k)):1 ≤ k ∧ a + k ≤ s.length:=by
  rw [zd9 h] at e; unfold zm7 at e
  split at e
  · cases e
  split at e
  · cases e; omega
  split at e
  · cases e; omega
  split at e
  · cases e; omega
  · cases e
theorem ztt {i:Nat} (h:i ≤ 8):16 ^ i ≤ 4294967296:=by
  have:16 ^ i ≤ 16 ^ 8:=Nat.pow_le_pow_right O h
  omega
def zx8 (o:Option (UInt8 × Nat)):Value:=.tuple #[.int .u8 ((o.getD (0,0)).1.toNat:Int),.int .i64 ((o.getD (0,0)).2:Int)]
open Go.RowKit
theorem St.ofBelow {w w':World} (h:Below w.heap.size w w'):St w NoM [] [] w':=(St.init w).keep (Kept.of_below h)
theorem zfs {P:Program} {g:FuncId} {args:Array Value} {w:World} {v:Value} (h:Calls P g args w fun e w'=>e = .returned v ∧ w' = w):Ret P g args w (fun u w'=>u = v ∧ St w NoM [] [] w') :=
  Calls.mono h fun e w' ⟨he,hw⟩=>⟨v,he,rfl,hw ▸ St.init w⟩
theorem zpn {P:Program} {g:FuncId} {args:Array Value} {w:World} {v:Value} (h:Calls P g args w fun e w'=>e = .returned v ∧ Below w.heap.size w w'):Ret P g args w (fun u w'=>u = v ∧ St w NoM [] [] w') :=
  Calls.mono h fun e w' ⟨he,hw⟩=>⟨v,he,rfl,St.ofBelow hw⟩
theorem zga (s:List UInt8):(ByteArray.mk s.toArray).size = s.length:=by simp [ByteArray.size]
theorem zvL (s:List UInt8):(ByteArray.mk s.toArray).data.toList = s:=rfl
section
variable {P:Program} {ty:TypeId} {ρ:Operand → Value} {w0 w:World} {C:Value → World → Prop} {M:Nat → Prop} {L D:List Res} {T T2 e:TypeId} {x y:Operand} {sz bytes:Nat} {zs:List Value}
def ifaceB:TypeDesc → Bool
  | .interface _=>true
  | _=>false
theorem zbL {d:TypeDesc} {v:Value} (hT:TyF P T d sz bytes zs) (hd:ifaceB d = false) (hx:ρ x = v) (h:C (.iface T v) w):Op1 P (.makeInterface T x) ty ρ w C:=by
  refine zbT (v:=.iface T v) (w':=w) ?_ h
  simp only [execOp,hx,Instr.makeInterface,Sem.run_bind,hT.run_und,Result.andThen]
  cases d <;> first | rfl | cases hd
theorem zqz {m:Array (String × TypeId)} (hT:TyF P T (.interface m) sz bytes zs):(Op.equal T .nilIface .nilIface).run P w = .ok true w:=by
  show (Op.equalIn (9999 + 1) T .nilIface .nilIface).run P w = _
  rw [Op.equalIn]
  simp [Sem.run_bind,hT.run_und,Result.andThen]
theorem zqA {m:Array (String × TypeId)} {U:TypeId} {p:Value} (hT:TyF P T (.interface m) sz bytes zs):(Op.equal T (.iface U p) .nilIface).run P w = .ok false w:=by
  show (Op.equalIn (9999 + 1) T (.iface U p) .nilIface).run P w = _
  rw [Op.equalIn]
  simp [Sem.run_bind,hT.run_und,Result.andThen]
theorem zoo {m:Array (String × TypeId)} (hT:TyF P T (.interface m) sz bytes zs) (hx:ρ x = .nilIface) (hy:ρ (.const .nilIface) = .nilIface) (h:C (.bool true) w):Op1 P (.binOp .eql T x (.const .nilIface) T2) ty ρ w C:=by
  refine zbT (v:=.bool true) (w':=w) ?_ h
  simp only [execOp,hx,hy,eqGuard]
  simp [binOp,zqz hT,Result.andThen]
theorem zop {m:Array (String × TypeId)} {U:TypeId} {p:Value} (hT:TyF P T (.interface m) sz bytes zs) (hx:ρ x = .iface U p) (hy:ρ y = .nilIface) (h:C (.bool false) w):Op1 P (.binOp .eql T x y T2) ty ρ w C:=by
  refine zbT (v:=.bool false) (w':=w) ?_ h
  simp only [execOp,hx,hy,eqGuard]
  simp [binOp,zqA hT,Result.andThen]
theorem zva {m:Array (String × TypeId)} (hT:TyF P T (.interface m) sz bytes zs) (hx:ρ x = .nilIface) (hy:ρ (.const .nilIface) = .nilIface) (h:C (.bool false) w):Op1 P (.binOp .neq T x (.const .nilIface) T2) ty ρ w C:=by
  refine zbT (v:=.bool false) (w':=w) ?_ h
  simp only [execOp,hx,hy,eqGuard]
  simp [binOp,zqz hT,Result.andThen]
theorem zvb {m:Array (String × TypeId)} {U:TypeId} {p:Value} (hT:TyF P T (.interface m) sz bytes zs) (hx:ρ x = .iface U p) (hy:ρ y = .nilIface) (h:C (.bool true) w):Op1 P (.binOp .neq T x y T2) ty ρ w C:=by
  refine zbT (v:=.bool true) (w':=w) ?_ h
  simp only [execOp,hx,hy,eqGuard]
  simp [binOp,zqA hT,Result.andThen]
theorem zok {S:TypeId} {s:List UInt8} {sz2 b2 es eb:Nat} {z2 ez:List Value} (V:St w0 M L D w) (hS:TyF P S .string sz2 b2 z2) (hT:TyF P T (.slice e) sz bytes zs) (he:TyF P e (.int .u8) es eb ez) (hx:ρ x = str s)
    (h:∀ (w':World) (b cp:Nat),St w0 M (Res.rs (some ⟨b,0,none⟩) s.length 1 (s.flatMap byC) :: L) D w' → C (.slice (some ⟨b,0,none⟩) s.length cp) w'):Op1 P (.convert S T x) ty ρ w C:=by
  have hr:=Lib.run_convert_string_bytes (P:=P) w S T e ⟨s.toArray⟩ hS.und hT.und he.und
  rw [zga] at hr
  refine Inv.value (v:=.slice (some ⟨w.heap.size,0,none⟩) s.length (grownCap w s.length 0 e)) (w':=Lib.bytesWorld w e ⟨s.toArray⟩) ?_ (h (Lib.bytesWorld w e ⟨s.toArray⟩) w.heap.size (grownCap w s.length 0 e) (V.push (Kept.of_below (Lib.bytesWorld_below _ _ _)) ?_ ?_))
  · simp only [execOp, hx, Sem.run_bind, str]
    rw [hr]; rfl
  · refine ⟨by rw [zdV (es := 1) (fun _ => rfl)], .inr ⟨_, 0, rfl, fun i v hi => ?_⟩⟩
    rw [zgp] at hi
    have hi2:=(List.getElem?_eq_some_iff.1 hi)
    obtain ⟨h1,h2⟩:=hi2
    rw [List.length_map] at h1
    have:=Lib.bytesWorld_cell w e ⟨s.toArray⟩ i (by rw [zga]; exact h1)
    rw [Nat.zero_add,this,← h2,zvL]; simp [List.getD,h1]
  · intro b ⟨_, o, ho⟩
    cases ho; exact Nat.le_refl _
end
theorem zoT {α:Type} [Inhabited α] (enc:α → Value) (w:World) (b off:Nat) (d:Array α) (n:Nat) {cs:Array Value} {T:TypeId} {fz:Nat × Nat} (h:w.heap[b]? = some (.cells cs T fz)) :
    Kept (· = b) w ((Sort.putRow enc w b off d).drewN n) ∧ ((Sort.putRow enc w b off d).drewN n).heap[b]? = some (.cells (Sort.putCells enc off d cs) T fz):=by
  refine ⟨⟨rfl,rfl,rfl,?_,?_⟩,?_⟩
  · simp [Sort.putRow,Sort.mapBlock,World.drewN]
  · intro c hc hne
    simp [Sort.putRow,Sort.mapBlock,World.drewN,Array.getElem?_modify,show b ≠ c from fun e=>hne e.symm]
  · simp [Sort.putRow,Sort.mapBlock,World.drewN,Array.getElem?_modify,h,Sort.onCells]
end Go.SK
namespace Go.SK
def puO (s:Tx):Option Nat:=match Lib.parseUintB 32 s with
  | .ok u=>some u
  | _=>none
def puV (s:Tx):Nat:=match Lib.parseUintB 32 s with
  | .ok u=>u
  | .range=>4294967295
  | _=>0
theorem zxi (s:Tx):puV s ≤ 4294967295:=by
  unfold puV
  cases h:Lib.parseUintB 32 s
  · exact Lib.parseUintB_le h
  · exact Nat.zero_le _
  · exact Nat.le_refl _
theorem zjV:∀ (s:Tx) (a n:Nat),zcD s a = some n → a ≤ n
  | [],a,n,h=>by cases h; exact Nat.le_refl _
  | c :: r, a, n, h => by
    rw [zcD] at h; split at h
    · have:=zjV r _ n h; omega
    · cases h
theorem zlb:∀ (s:Tx) (a n:Nat),zcD s a = some n → n ≤ 4294967295 → Lib.parseUintM 4294967295 a s = .ok n
  | [],a,n,h,_=>by cases h; rfl
  | c :: r, a, n, h, hn => by
    rw [zcD] at h; split at h
    · rename_i hd
      have hb:=zlc hd
      have hm:=zjV r _ n h
      rw [Lib.parseUintM,if_pos hb,if_neg (by omega),if_neg (by omega),Nat.mul_comm a 10]
      exact zlb r _ n h hn
    · cases h
theorem zmf (c:UInt8):∀ (s:Tx) (a:Nat),zcD (s ++ [c]) a = (zcD s a).bind fun m=>if zej c = true then some (10 * m + (c.toNat - 48)) else none
  | [],a=>by simp [zcD]
  | d :: r, a => by
    rw [List.cons_append,zcD,zcD]
    split
    · exact zmf c r _
    · rfl
theorem zwF (u:Nat):zcD (Lib.decDigits u) 0 = some u:=by
  induction u using Nat.strongRecOn with
  | _ u ih =>
    rw [Lib.decDigits]; split
    · rename_i h
      have h1:(UInt8.ofNat (48 + u)).toNat = 48 + u:=by rw [UInt8.toNat_ofNat']; omega
      rw [zcD,if_pos (show zej _ = true from Dt (by omega)),zcD,h1]; congr 1; omega
    · rename_i h
      have h1:(UInt8.ofNat (48 + u % 10)).toNat = 48 + u % 10:=by rw [UInt8.toNat_ofNat']; omega
      rw [zmf,ih (u / 10) (by omega),Option.bind_some,if_pos (show zej _ = true from Dt (by omega)),h1]; congr 1; omega
theorem znw {a b:Tx} (h:0 < a.length):(a ++ b).getD 0 0 = a.getD 0 0:=by
  cases a with
  | nil=>exact absurd h (Nat.lt_irrefl _)
  | cons c r=>rfl
theorem zvN {p:Tx → Prop} (h0:p []) (h1:∀ r c,p r → p (r ++ [c])) (s:Tx):p s:=by
  have:∀ l:Tx,p l.reverse:=fun l=>by
    induction l with
    | nil=>exact h0
    | cons c r ih=>rw [List.reverse_cons]; exact h1 _ _ ih
  have h:=this s.reverse
  rwa [List.reverse_reverse] at h
theorem zmh (u:Nat):(Lib.decDigits u).length = Lib.nDigits u:=by rw [Lib.decDigits_eq]; simp
theorem zwJ {u:Nat}:0 < (Lib.decDigits u).length ∧ (((Lib.decDigits u).getD 0 0).toNat = 48 → u = 0):=by
  induction u using Nat.strongRecOn with
  | _ u ih =>
    rw [Lib.decDigits]; split
    · rename_i h
      have h1:(UInt8.ofNat (48 + u)).toNat = 48 + u:=by rw [UInt8.toNat_ofNat']; omega
      refine ⟨Nat.one_pos,fun h2=>?_⟩
      have:((([UInt8.ofNat (48 + u)]:List UInt8).getD 0 0)).toNat = 48 + u:=h1
      omega
    · rename_i h
      obtain ⟨h1,h2⟩:=ih (u / 10) O
      refine ⟨by rw [List.length_append]; omega,fun h3=>?_⟩
      rw [znw h1] at h3
      have:=h2 h3; omega
theorem zgj {u k:Nat} (h:u < 10 ^ (k + 1)):Lib.nDigits u ≤ k + 1:=by
  induction k generalizing u with
  | zero=>rw [Lib.nDigits_small (by simpa using h)]; exact Nat.le_refl _
  | succ k ih =>
    by_cases h10:u < 10
    · rw [Lib.nDigits_small h10]; omega
    · rw [Lib.nDigits_big h10]
      have:=ih (u:=u / 10) (by rw [Nat.pow_succ] at h; omega)
      omega
theorem dec_of (s:Tx):∀ n,0 < s.length → (1 < s.length → (s.getD 0 0).toNat ≠ 48) → zcD s 0 = some n → Lib.decDigits n = s ∧ ((s.getD 0 0).toNat ≠ 48 → 1 ≤ n):=by
  refine zvN (p:=fun s=>∀ n,0 < s.length → (1 < s.length → (s.getD 0 0).toNat ≠ 48) → zcD s 0 = some n → Lib.decDigits n = s ∧ ((s.getD 0 0).toNat ≠ 48 → 1 ≤ n)) ?_ ?_ s
  · intro n h; exact absurd h (Nat.lt_irrefl _)
  · intro r c ih n _ hz hd
    rw [zmf] at hd
    cases hr:zcD r 0 with
    | none=>rw [hr] at hd; cases hd
    | some m =>
      rw [hr,Option.bind_some] at hd
      split at hd
      · rename_i hc
        have hb:=zlc hc
        cases hd
        rcases Nat.eq_zero_or_pos r.length with h0 | h0
        · obtain rfl := List.length_eq_zero_iff.1 h0
          cases hr
          refine ⟨?_,fun h=>?_⟩
          · rw [Lib.decDigits, dif_pos (by omega), List.nil_append]
            congr 1
            apply UInt8.toNat_inj.1; rw [UInt8.toNat_ofNat']; omega
          · have : (([] ++ [c] : List UInt8).getD 0 0).toNat = c.toNat := rfl
            omega
        · have e0 : (r ++ [c]).getD 0 0 = r.getD 0 0 := znw h0
          have hz2:=hz (by rw [List.length_append]; simp; omega)
          rw [e0] at hz2
          obtain ⟨h1,h2⟩:=ih m h0 (fun _=>hz2) hr
          have h3:=h2 hz2
          refine ⟨?_,fun _=>by omega⟩
          rw [Lib.decDigits,dif_neg (by omega),show (10 * m + (c.toNat - 48)) / 10 = m by omega,h1]
          congr 2
          apply UInt8.toNat_inj.1; rw [UInt8.toNat_ofNat']; omega
      · cases hd
theorem zho {s:Tx} {n:Nat} (h:zba s = some n):Lib.decDigits n = s ∧ puV s = n ∧ (puO s).isSome = true:=by
  have hn:=zqc h
  by_cases hb:zpi s
  · have:=(zoU hb).2; rw [h] at this; cases this
  · cases hd : zcD s 0 with
    | none=>have:=(zlS hb hd).2; rw [h] at this; cases this
    | some m =>
      have e:=zqb hb hd
      have hm:m = n:=e.1.symm.trans hn.1
      subst hm
      unfold zpi at hb
      refine ⟨(dec_of s m O O hd).1,?_⟩
      have hp:Lib.parseUintB 32 s = .ok m:=by
        unfold Lib.parseUintB
        rw [if_neg (fun e=>hb (.inl (by rw [e]; rfl)))]
        exact zlb s 0 m hd O
      unfold puV puO; rw [hp]; exact ⟨rfl,rfl⟩
theorem ze3 {u:Nat} (h:u < 4294967296):zba (Lib.decDigits u) = some u:=by
  have hl:¬ zpi (Lib.decDigits u):=by
    unfold zpi
    have h1:=zwJ (u:=u)
    have h2:=zmh u
    have h3:=zgj (u:=u) (k:=9) O
    intro hq
    rcases hq with hq | hq | ⟨hq,hz⟩
    · omega
    · omega
    · have := h1.2 hz; subst this
      rw [h2,Lib.nDigits_small (by omega)] at hq; omega
  rw [zd8,if_neg hl,zwF,Option.bind_some,if_pos h]
theorem ztu {s:Tx} (h:(puO s).isSome = true):(zba s).isSome = decide (Lib.decDigits (puV s) = s):=by
  by_cases e:Lib.decDigits (puV s) = s
  · rw [Dt e]
    have:=ze3 (u:=puV s) (by have:=zxi s; omega)
    rw [e] at this; rw [this]; rfl
  · rw [Df e]
    cases hp:zba s with
    | none=>rfl
    | some n =>
      obtain ⟨h1,h2,_⟩:=zho hp
      rw [h2] at e; exact absurd h1 e
theorem zvY {s:Tx} (h:(puO s).isSome = false):(zba s).isSome = false:=by
  cases hp:zba s with
  | none=>rfl
  | some n=>rw [(zho hp).2.2] at h; cases h
open Go.RowKit
section
variable {P:Program} {ty:TypeId} {ρ:Operand → Value} {w:World} {C:Value → World → Prop} {T e:TypeId} {sz bytes es eb:Nat} {zs ez:List Value} {de:TypeDesc}
theorem zgN {x y:Operand} {b off k hi:Nat} {kk:IntKind} {a:Int} (hT:TyF P T (.array k e) sz bytes zs) (he:TyF P e de es eb ez) (hx:ρ x = .pointer (some ⟨b,off,none⟩)) (hy:ρ y = .int kk a) (ha:a = hi) (h1:hi ≤ k)
    (h:C (.slice (some ⟨b,off,none⟩) hi k) w):Op1 P (.slice T x none (some y) none) ty ρ w C:=by
  subst ha
  refine zbT (v:=.slice (some ⟨b,off,none⟩) hi k) (w':=w) ?_ h
  simp [execOp,Instr.sliceAt,Instr.slice,Instr.sliceBounds,Instr.sliceBound,asIntOf,hx,hy,Sem.run_bind,hT.run_und,he.run_size,Result.andThen,h1,zcS,Instr.sureAddr]
end
theorem zyh:∀ n < 256,0 ≤ bits .or .u8 ((n:Nat):Int) 32 ∧ bits .or .u8 ((n:Nat):Int) 32 ≤ 255 ∧ (97 ≤ n ∧ n ≤ 102 → bits .or .u8 ((n:Nat):Int) 32 = n) ∧ (65 ≤ n ∧ n ≤ 70 → bits .or .u8 ((n:Nat):Int) 32 = n + 32) ∧ (¬ (48 ≤ n ∧ n ≤ 57) → ¬ (97 ≤ n ∧ n ≤ 102 ∨ 65 ≤ n ∧ n ≤ 70) → ¬ (97 ≤ bits .or .u8 ((n:Nat):Int) 32 ∧ bits .or .u8 ((n:Nat):Int) 32 ≤ 102)):=by decide +kernel
theorem zyp {u k:Nat} {d:Array UInt8} {v':Nat} (h:Lib.FmtInv k u 0 v' d) (hk:k = Lib.nDigits u) (xs:List Value) (hx:k ≤ xs.length) :
    (Sort.putCells (fun (b:UInt8)=>Value.int .u8 (b.toNat:Int)) 0 d xs.toArray).toList.take k = (Lib.decDigits u).flatMap byC:=by
  have hs:=h.size
  apply List.ext_getElem?
  intro j
  rw [zgp,Lib.decDigits_eq,← hk]
  by_cases hj:j < k
  · rw [List.getElem?_take_of_lt hj]
    have hd:=h.done j (Nat.zero_le _) hj
    rw [getElem!_pos d j (by omega)] at hd
    simp [Sort.putCells,hj,hs,show j < xs.length by omega,hd]
  · rw [List.getElem?_eq_none (by simp; omega),List.getElem?_eq_none (by simp; omega)]
end Go.SK
namespace Go.SK
theorem take1 {s:Tx} {c:UInt8} (h:s.take 1 = [c]):0 < s.length ∧ (s.getD 0 0).toNat = c.toNat:=by
  cases s with
  | nil=>cases h
  | cons a r=>cases h; exact ⟨Nat.succ_pos _,rfl⟩
theorem zvK {s:Tx} {c:UInt8} (h:s.take 1 ≠ [c]):s.length = 0 ∨ (s.getD 0 0).toNat ≠ c.toNat:=by
  cases s with
  | nil=>exact .inl rfl
  | cons a r=>exact .inr fun e=>h (by rw [List.take_succ_cons,List.take_zero]; exact congrArg (fun x=>[x]) (UInt8.toNat_inj.1 e))
theorem zvJ {s:Tx} {c d:UInt8} (h:s.take 2 = [c,d]):2 ≤ s.length ∧ (s.getD 0 0).toNat = c.toNat ∧ (s.getD 1 0).toNat = d.toNat:=by
  match s,h with
  | a :: b :: r,h=>cases h; exact ⟨by simp,rfl,rfl⟩
theorem ziI {s:Tx} {c d:UInt8} (h:s.take 2 ≠ [c,d]):s.length < 2 ∨ (s.getD 0 0).toNat ≠ c.toNat ∨ (s.getD 1 0).toNat ≠ d.toNat:=by
  match s,h with
  | [],h=>exact .inl (by simp)
  | [a],h=>exact .inl (by simp)
  | a :: b :: r, h =>
    by_cases e:a = c
    · by_cases e2 : b = d
      · exact absurd (by rw [e,e2]; rfl) h
      · exact .inr (.inr fun e3=>e2 (UInt8.toNat_inj.1 e3))
    · exact .inr (.inl fun e3=>e (UInt8.toNat_inj.1 e3))
theorem zpU {s p:Tx} (h:Lib.hasPrefix s p = true):Lib.trimPrefix s p = s.drop p.length ∧ s.take p.length = p:=by
  refine ⟨by unfold Lib.trimPrefix; rw [if_pos h],?_⟩
  unfold Lib.hasPrefix at h
  obtain ⟨t,rfl⟩:=List.isPrefixOf_iff_prefix.1 h
  simp
theorem zs1 {s p:Tx} (h:Lib.hasPrefix s p = false):Lib.trimPrefix s p = s ∧ s.take p.length ≠ p:=by
  refine ⟨by unfold Lib.trimPrefix; rw [h]; rfl,fun e=>?_⟩
  unfold Lib.hasPrefix at h
  have hq:p ++ s.drop p.length = s:=by
    have h2:=List.take_append_drop p.length s
    rw [e] at h2; exact h2
  have:p.isPrefixOf s = true:=List.isPrefixOf_iff_prefix.2 ⟨s.drop p.length,hq⟩
  rw [h] at this; cases this
theorem zeC {s:Tx} (h:zba s = none) (h1:0 < s.length ∧ (s.getD 0 0).toNat = 45) (h2:∀ n,zba (s.drop 1) = some n → ¬ (1 ≤ n ∧ n ≤ 2147483648)):za3 s = (0,62):=by
  by_cases hl:1 < s.length
  · exact zhs h ⟨hl,h1.2⟩ h2
  · exact ziP h (fun q=>hl q.1) (.inl O)
theorem zoW {s:Tx} {n:Nat} (h:zba s = none) (h1:0 < s.length ∧ (s.getD 0 0).toNat = 45) (h2:zba (s.drop 1) = some n) (h3:1 ≤ n ∧ n ≤ 2147483648):za3 s = (4294967296 - (n:Int),0):=by
  refine zrD h ⟨?_,h1.2⟩ h2 h3
  by_cases hl:1 < s.length
  · exact hl
  · rw [List.drop_eq_nil_of_le (by omega)] at h2; cases h2
theorem zfP {s:Tx} (h:zba s = none) (h1:2 ≤ s.length ∧ (s.getD 0 0).toNat = 48 ∧ (s.getD 1 0).toNat = 120) (h2:10 < s.length ∨ s.length = 2 ∨ zcX (s.drop 2) 0 = none):za3 s = (0,62):=by
  by_cases hb:s.length < 3 ∨ 10 < s.length ∨ (s.getD 0 0).toNat ≠ 48 ∨ (s.getD 1 0).toNat ≠ 120
  · exact ziP h O hb
  · refine zgT h O hb ?_
    rcases h2 with h2 | h2 | h2
    · omega
    · omega
    · exact h2
theorem ziV:∀ (s:Tx) (a n:Nat),zcX s a = some n → zcj s = s ∧ Lib.indexByte s 95 = -1
  | [],a,n,_=>⟨rfl,rfl⟩
  | c :: r, a, n, h => by
    rw [zcX] at h; split at h
    · rename_i hc
      obtain ⟨h1,h2⟩:=ziV r _ n h
      have hb:=(zgK hc).1
      have hr:zkm c = true:=by
        unfold zkm zgI zej
        rw [Bool.or_eq_true,decide_eq_true_eq,decide_eq_true_eq]; omega
      refine ⟨?_,?_⟩
      · unfold zcj at h1 ⊢; rw [List.takeWhile_cons,if_pos hr,h1]
      · unfold Lib.indexByte
        have hne:(c == 95) = false:=by
          rw [beq_eq_false_iff_ne]; intro e; subst e
          have:(95:UInt8).toNat = 95:=rfl
          omega
        rw [hne,h2]; rfl
    · cases h
theorem zv2 {m:Nat} (h:1 ≤ m ∧ m ≤ 2147483648):IntKind.u32.wrap (0 - (m:Int)) = 4294967296 - (m:Int):=by
  simp [IntKind.wrap,IntKind.signed,IntKind.bits]; omega
theorem ztX:∀ (s:Tx) (a n k:Nat),zcX s a = some n → a < 16 ^ k → n < 16 ^ (k + s.length)
  | [],a,n,k,h,ha=>by cases h; exact ha
  | c :: r, a, n, k, h, ha => by
    rw [zcX] at h; split at h
    · rename_i hc
      have:=ztX r _ n (k + 1) h (zdt ha (zgK hc).2)
      rw [List.length_cons,show k + (r.length + 1) = k + 1 + r.length by omega]; exact this
    · cases h
theorem ztY {s:Tx} {n:Nat} (h:zcX s 0 = some n) (hl:s.length ≤ 8):n ≤ 4294967295:=by
  have h1:=ztX s 0 n 0 h De
  have h2:=ztt (i:=0 + s.length) O
  omega
def ziB (r:Tx):Option (UInt8 × Nat):=(zcv (92 :: r)).map fun q=>(q.1,q.2 - 1)
theorem zqy {r:Tx} (h0:0 < r.length) (h:(r.getD 0 0).toNat = 34 ∨ (r.getD 0 0).toNat = 92):ziB r = some (r.getD 0 0,1):=by
  unfold ziB
  rw [show zcv (92 :: r) = zcv ((92 :: r).drop 0) from rfl,zqd (by simp) rfl (by simp; omega) h]; rfl
theorem num4 {r:Tx} (h:3 ≤ r.length) (hx:(r.getD 0 0).toNat = 120):za3 ([48] ++ r.take 3) = if zeG (r.getD 1 0) = true ∧ zeG (r.getD 2 0) = true then (((16 * zfE (r.getD 1 0) + zfE (r.getD 2 0):Nat):Int),0) else (0,62):=by
  match r,h with
  | a :: b :: c :: t, _ =>
    have ha:a = 120:=UInt8.toNat_inj.1 hx
    subst ha
    show za3 [48,120,b,c] = if zeG b = true ∧ zeG c = true then _ else _
    have hp:zba [48,120,b,c] = none:=by
      rw [zd8,if_pos (show zpi [48,120,b,c] from .inr (.inr ⟨by simp,rfl⟩))]
    have hs:zcX [b,c] 0 = if zeG b = true ∧ zeG c = true then some (16 * zfE b + zfE c) else none:=by
      rw [zcX]
      by_cases hb:zeG b = true
      · rw [if_pos hb, zcX]
        by_cases hc:zeG c = true
        · rw [if_pos hc,if_pos ⟨hb,hc⟩,zcX]; simp
        · rw [if_neg hc,if_neg (fun q=>hc q.2)]
      · rw [if_neg hb,if_neg (fun q=>hb q.1)]
    by_cases hq:zeG b = true ∧ zeG c = true
    · rw [if_pos hq]; rw [if_pos hq] at hs
      exact zqk hp (by simp) (by simp) hs
    · rw [if_neg hq]; rw [if_neg hq] at hs
      exact zgT hp (by simp) (by simp) hs
theorem zt5 {r:Tx} (h:3 ≤ r.length) (hx:(r.getD 0 0).toNat = 120) (hn:(za3 ([48] ++ r.take 3)).2 = 0):ziB r = some (UInt8.ofNat ((za3 ([48] ++ r.take 3)).1).toNat,3) ∧ 0 ≤ (za3 ([48] ++ r.take 3)).1 ∧ (za3 ([48] ++ r.take 3)).1 ≤ 255:=by
  rw [num4 h hx] at hn ⊢
  split at hn
  · rename_i hq
    rw [if_pos hq]
    have h1:=(zgK hq.1).2
    have h2:=(zgK hq.2).2
    refine ⟨?_,by dsimp only; omega,by dsimp only; omega⟩
    unfold ziB
    rw [show zcv (92 :: r) = zcv ((92 :: r).drop 0) from rfl,zm6 (by simp) rfl (by simp; omega) hx hq.1 hq.2]; rfl
  · cases hn
theorem zt4 {r:Tx} (h:3 ≤ r.length) (hx:(r.getD 0 0).toNat = 120) (hn:(za3 ([48] ++ r.take 3)).2 ≠ 0):ziB r = none:=by
  rw [num4 h hx] at hn
  split at hn
  · exact absurd rfl hn
  · rename_i hq
    unfold ziB
    rw [show zcv (92 :: r) = zcv ((92 :: r).drop 0) from rfl,zqg (by simp) rfl (fun q=>?_) (fun q=>hq ⟨q.2.2.1,q.2.2.2⟩)]; rfl
    have:((92 :: r).getD (0 + 1) 0).toNat = 120:=hx
    omega
theorem zxs {r:Tx} (h0:0 < r.length) (h:¬ ((r.getD 0 0).toNat = 34 ∨ (r.getD 0 0).toNat = 92)) (hx:¬ ((r.getD 0 0).toNat = 120 ∧ 3 ≤ r.length)):ziB r = none:=by
  unfold ziB
  rw [show zcv (92 :: r) = zcv ((92 :: r).drop 0) from rfl,zqg (by simp) rfl (fun q=>h q.2) (fun q=>hx ⟨q.2.1,by have:=q.1; simp at this; omega⟩)]; rfl
theorem zqi {s:Tx} {a:Nat} (h:a < s.length) (hc:(s.getD a 0).toNat = 92):zcv (s.drop a) = (ziB (s.drop (a + 1))).map fun q=>(q.1,q.2 + 1):=by
  have e:s.drop a = 92 :: s.drop (a + 1):=by
    rw [zmd h]; congr 1; exact UInt8.toNat_inj.1 hc
  unfold ziB
  rw [e]
  cases hp:zcv (92 :: s.drop (a + 1)) with
  | none=>rfl
  | some q =>
    have:=zhq (s:=92 :: s.drop (a + 1)) (a:=0) (c:=q.1) (k:=q.2) (by simp) hp
    simp only [Option.map_some]; congr 1
    exact Prod.ext rfl (by show q.2 = q.2 - 1 + 1; omega)
theorem zqe {s:Tx} {c:UInt8} {k:Nat} (e:zcv s = some (c,k)):1 ≤ k ∧ k ≤ s.length:=by
  cases s with
  | nil=>cases e
  | cons a r=>have:=zhq (s:=a :: r) (a:=0) (by simp) e; omega
theorem zm4:∀ (n m:Nat) (s:Tx),s.length ≤ n → s.length ≤ m → quoN n s = quoN m s
  | 0,0,s,_,_=>rfl
  | 0, m + 1, s, h, _ => by
    obtain rfl:=List.length_eq_zero_iff.1 (Nat.le_zero.1 h); rfl
  | n + 1, 0, s, _, h => by
    obtain rfl:=List.length_eq_zero_iff.1 (Nat.le_zero.1 h); rfl
  | n + 1, m + 1, s, h1, h2 => by
    rw [quoN,quoN]
    split
    · rfl
    · split
      · rfl
      · cases hp : zcv s with
        | none=>rfl
        | some q =>
          have:=zqe (c:=q.1) (k:=q.2) hp
          dsimp only
          rw [zm4 n m (s.drop q.2) (by rw [List.length_drop]; omega) (by rw [List.length_drop]; omega)]
def zgF (s:Tx) (a:Nat):Option (Tx × Nat):=quoN (s.length - a) (s.drop a)
theorem zx5 {s:Tx} {a:Nat} (h:s.length ≤ a):zgF s a = none:=by
  unfold zgF; rw [List.drop_eq_nil_of_le h,show s.length - a = 0 by omega]; rfl
theorem zoS {s:Tx} {a:Nat} (h:a < s.length):zgF s a = if (s.getD a 0).toNat = 34 then some ([],1) else match zcv (s.drop a) with
    | none=>none
    | some (c,k)=>(quoN (s.length - a - 1) ((s.drop a).drop k)).map fun q=>(c :: q.1,k + q.2):=by
  unfold zgF
  rw [show s.length - a = (s.length - a - 1) + 1 by omega,quoN,if_neg (by rw [List.length_drop]; omega)]
  have e:(s.drop a).getD 0 0 = s.getD a 0:=by rw [zfT]; rfl
  rw [e]; rfl
theorem zvW {s:Tx} {a:Nat} (h:a < s.length) (h1:(s.getD a 0).toNat = 34):zgF s a = some ([],1):=by
  rw [zoS h,if_pos h1]
theorem zlQ {s:Tx} {a:Nat} (h:a < s.length) (h1:¬ (s.getD a 0).toNat = 34) (h2:zcv (s.drop a) = none):zgF s a = none:=by
  rw [zoS h,if_neg h1,h2]
theorem zvV {s:Tx} {a k:Nat} {c:UInt8} (h:a < s.length) (h1:¬ (s.getD a 0).toNat = 34) (h2:zcv (s.drop a) = some (c,k)):zgF s a = (zgF s (a + k)).map fun q=>(c :: q.1,k + q.2):=by
  rw [zoS h,if_neg h1,h2]
  dsimp only
  unfold zgF
  have hk:=zhq h h2
  rw [List.drop_drop,zm4 (s.length - a - 1) (s.length - (a + k)) _ (by rw [List.length_drop]; omega) (by rw [List.length_drop]; omega)]
def zx6 (s:Tx) (a i:Nat) (b:Tx):Prop:=a ≤ i ∧ i ≤ s.length ∧ b.length + a ≤ i ∧ zgF s a = (zgF s i).map fun q=>(b ++ q.1,(i - a) + q.2)
theorem zrv {s:Tx} {a:Nat} (h:a ≤ s.length):zx6 s a a []:=by
  refine ⟨Nat.le_refl _,h,by simp,?_⟩
  cases zgF s a with
  | none=>rfl
  | some q=>simp
theorem ztp {s:Tx} {a i:Nat} {b:Tx} (h:zx6 s a i b) (hi:i < s.length) (h1:(s.getD i 0).toNat = 34):zgF s a = some (b,i - a + 1):=by
  rw [h.2.2.2,zvW hi h1]; simp
theorem zhn {s:Tx} {a i:Nat} {b:Tx} (h:zx6 s a i b) (hn:zgF s i = none):zgF s a = none:=by
  rw [h.2.2.2,hn]; rfl
theorem zm5 {s:Tx} {a i k:Nat} {b:Tx} {c:UInt8} (h:zx6 s a i b) (hi:i < s.length) (h1:¬ (s.getD i 0).toNat = 34) (h2:zcv (s.drop i) = some (c,k)):zx6 s a (i + k) (b ++ [c]):=by
  have hk:=zhq hi h2
  refine ⟨by have:=h.1; omega,hk.2,by rw [List.length_append,List.length_singleton]; have:=h.2.2.1; omega,?_⟩
  rw [h.2.2.2,zvV hi h1 h2]
  cases zgF s (i + k) with
  | none=>rfl
  | some q =>
    simp only [Option.map_some,List.append_assoc,List.singleton_append]
    congr 2
    have:=h.1; omega
def zvh (o:Option (Tx × Nat)):Tx × Nat:=match o with
  | some (t,m)=>(t,m + 1)
  | none=>([],0)
theorem quoP_none {o:Option (Tx × Nat)}:(zvh o).2 = 0 ↔ o = none:=by
  cases o with
  | none=>exact ⟨fun _=>rfl,fun _=>rfl⟩
  | some q=>exact ⟨fun h=>absurd h (Nat.succ_ne_zero _),fun h=>by cases h⟩
theorem zwj {α:Type} {o:Option (α × Nat)} {d:α} (hpos:∀ c k,o = some (c,k) → 1 ≤ k) (h:(o.getD (d,0)).2 = 0):o = none:=by
  cases o with
  | none=>rfl
  | some q=>have:=hpos q.1 q.2 rfl; simp at h; omega
theorem zwi {α:Type} {o:Option (α × Nat)} {d:α} (h:¬ (o.getD (d,0)).2 = 0):o = some ((o.getD (d,0)).1,(o.getD (d,0)).2):=by
  cases o with
  | none=>exact absurd rfl h
  | some q=>rfl
theorem zyr {r:Tx} {c:UInt8} {k:Nat} (h:ziB r = some (c,k)):1 ≤ k:=by
  unfold ziB at h
  cases hp:zcv (92 :: r) with
  | none=>rw [hp] at h; cases h
  | some q =>
    have:2 ≤ q.2:=by
      have hpp:zcv ((92 :: r).drop 0) = some q:=hp
      rw [zd9 (by simp)] at hpp
      unfold zm7 at hpp
      have e92:((92 :: r).getD 0 0).toNat = 92:=rfl
      rw [if_neg (by omega),if_neg (by omega)] at hpp
      split at hpp
      · cases hpp; show 2 ≤ 2; omega
      · split at hpp
        · cases hpp; show 2 ≤ 4; omega
        · cases hpp
    rw [hp] at h; cases h
    show 1 ≤ q.2 - 1; omega
theorem zry {x:Int} {k:Nat} (h:0 ≤ x ∧ x ≤ 255):Value.tuple #[.int .u8 x,.int .i64 (k:Int)] = zx8 (some (UInt8.ofNat x.toNat,k)):=by
  have:((UInt8.ofNat x.toNat).toNat:Int) = x:=by rw [UInt8.toNat_ofNat']; omega
  unfold zx8; dsimp only [Option.getD]; rw [this]
theorem zrx {s:Tx} {a:Nat} (h:a < s.length) (h1:¬ ((s.getD a 0).toNat < 32 ∨ 126 < (s.getD a 0).toNat)) (h2:(s.getD a 0).toNat ≠ 34) (h3:(s.getD a 0).toNat ≠ 92):zcv (s.drop a) = some (s.getD a 0,1):=zqf h O h3
theorem ztw {s:Tx} {a:Nat} (h:a < s.length) (hc:(s.getD a 0).toNat = 92) (hn:¬ ((ziB (s.drop (a + 1))).getD (0,0)).2 = 0):zcv (s.drop a) = some (((ziB (s.drop (a + 1))).getD (0,0)).1,((ziB (s.drop (a + 1))).getD (0,0)).2 + 1):=by
  rw [zqi h hc]
  have:=zwi hn
  rw [this]; rfl
theorem ztx {s:Tx} {a:Nat} (h:a < s.length) (hc:(s.getD a 0).toNat = 92) (hn:((ziB (s.drop (a + 1))).getD (0,0)).2 = 0):zcv (s.drop a) = none:=by
  rw [zqi h hc,zwj (fun c k=>zyr) hn]; rfl
theorem ztn:∀ (n:Nat) (s t:Tx) (m:Nat),quoN n s = some (t,m) → 1 ≤ m ∧ m ≤ s.length ∧ t.length + 1 ≤ m
  | 0,s,t,m,h=>by cases h
  | n + 1, s, t, m, h => by
    rw [quoN] at h
    split at h
    · cases h
    · rename_i h0
      split at h
      · cases h; simp; omega
      · cases hp : zcv s with
        | none=>rw [hp] at h; cases h
        | some q =>
          rw [hp] at h; dsimp only at h
          have hk:=zqe (c:=q.1) (k:=q.2) hp
          cases hr:quoN n (s.drop q.2) with
          | none=>rw [hr] at h; cases h
          | some r =>
            rw [hr] at h; cases h
            have:=ztn n _ r.1 r.2 hr
            rw [List.length_drop] at this
            simp only [List.length_cons]; omega
open Go.RowKit
section
variable {P:Program} {ty:TypeId} {ρ:Operand → Value} {w:World} {C:Value → World → Prop} {T T2:TypeId}
theorem zw9 {x y:Operand} {k:IntKind} {a b:Int} {m1 m2:Nat} {c:Int} (hx:ρ x = .int k a) (hy:ρ y = .int k b) (ha:a = (m1:Int)) (hb:b = (m2:Int)) (h1:m1 < 2 ^ k.bits) (h2:m2 < 2 ^ k.bits) (hc:((m1 &&& m2:Nat):Int) = c) (hw:k.wrap c = c) (h:C (.int k c) w):Op1 P (.binOp .and T x y T2) ty ρ w C:=by
  refine zi6 (v:=.int k c) hx hy rfl ?_ h
  subst ha; subst hb; subst hc
  have e1:(BitVec.ofInt k.bits (m1:Int)).toNat = m1:=by
    rw [BitVec.toNat_ofInt]; rw [← Int.natCast_emod,Int.toNat_natCast]; exact Nat.mod_eq_of_lt h1
  have e2:(BitVec.ofInt k.bits (m2:Int)).toNat = m2:=by
    rw [BitVec.toNat_ofInt]; rw [← Int.natCast_emod,Int.toNat_natCast]; exact Nat.mod_eq_of_lt h2
  simp only [Op.intBits,BitVec.toNat_and,e1,e2,hw]
  rfl
theorem zot {x y:Operand} {a:Int} {m:Nat} (hx:ρ x = .int .u8 a) (hy:ρ y = .int .u8 15) (ha:a = (m:Int)) (hm:m < 256) (h:C (.int .u8 ((m % 16:Nat):Int)) w):Op1 P (.binOp .and T x y T2) ty ρ w C:=by
  have e:m &&& 15 = m % 16:=Nat.and_two_pow_sub_one_eq_mod m 4
  exact zw9 (m1:=m) (m2:=15) hx hy ha rfl hm (by decide) (by rw [e]) (zsM (by omega) (by omega)) h
end
def qb (s:Tx) (i:Nat):Tx:=34 :: (s.take i).flatMap ziO
theorem zjt {s:Tx} {i:Nat} {x:Tx} (h:i < s.length) (hx:ziO (s.getD i 0) = x):qb s (i + 1) = qb s i ++ x:=by
  unfold qb
  have:s.take (i + 1) = s.take i ++ [s.getD i 0]:=by
    rw [List.take_add_one]; simp [List.getD,h]
  rw [this,List.flatMap_append,List.flatMap_cons,List.flatMap_nil,List.append_nil,hx,List.cons_append]
theorem zqa (c:UInt8):1 ≤ (ziO c).length ∧ (ziO c).length ≤ 4:=by
  unfold ziO; split
  · simp
  · split <;> simp
theorem zxh (s:Tx) (i:Nat):(qb s i).length ≤ 1 + 4 * i:=by
  unfold qb
  have:∀ l:Tx,(l.flatMap ziO).length ≤ 4 * l.length:=fun l=>by
    induction l with
    | nil=>simp
    | cons c r ih=>rw [List.flatMap_cons,List.length_append,List.length_cons]; have:=(zqa c).2; omega
  have h2:=this (s.take i)
  rw [List.length_cons]; have:=List.length_take_le i s; omega
theorem ztq {s:Tx} {i:Nat} (h:s.length ≤ i):qb s i ++ [34] = zd7 s:=by
  unfold qb zd7; rw [List.take_of_length_le h,List.cons_append]
theorem ziM {c:UInt8} (h:c.toNat < 32 ∨ 126 < c.toNat):ziO c = [92,120,zl4 (c.toNat / 16),zl4 (c.toNat % 16)]:=by unfold ziO; rw [if_pos h]
theorem ziN {c:UInt8} (h:¬ (c.toNat < 32 ∨ 126 < c.toNat)) (h2:c.toNat = 34 ∨ c.toNat = 92):ziO c = [92,c]:=by unfold ziO; rw [if_neg h,if_pos h2]
theorem zlR {c:UInt8} (h:¬ (c.toNat < 32 ∨ 126 < c.toNat)) (h2:¬ (c.toNat = 34 ∨ c.toNat = 92)):ziO c = [c]:=by unfold ziO; rw [if_neg h,if_neg h2]
theorem zl3:∀ n < 16,([48,49,50,51,52,53,54,55,56,57,97,98,99,100,101,102]:Tx).getD n 0 = zl4 n:=by decide
theorem zm3 (s:Tx):(zd7 s).length ≤ 2 + 4 * s.length:=by
  rw [← ztq (Nat.le_refl s.length),List.length_append]; have:=zxh s s.length; simp; omega
end Go.SK
namespace Go.SK
theorem f_no {b:Bool} (h:b = false):¬ b = true:=by rw [h]; decide
theorem zdj (s:Tx) (a:Nat):(s.drop a).getD 0 0 = s.getD a 0:=by rw [zfT]; rfl
theorem zwD (s:Tx) (a:Nat):(s.drop a).drop 1 = s.drop (a + 1):=List.drop_drop
theorem znk {c:UInt8} {n:Nat} (h:zgI c = true) (hn:n < 65):c.toNat ≠ n:=by
  unfold zgI at h; simp only [decide_eq_true_eq] at h; omega
section
variable {s:Tx} {a:Nat}
theorem ziG (h:zgI (s.getD a 0) = true):zfF (s.drop a) = .ok (1,zcj (s.drop a),(zcj (s.drop a)).length):=by
  unfold zfF; dsimp only; rw [zdj,if_pos h]
theorem zpW (h:(s.getD a 0).toNat = 37):zfF (s.drop a) = if (zba (zcj (s.drop (a + 1)))).isSome = true then .ok (2,zcj (s.drop (a + 1)),(zcj (s.drop (a + 1))).length + 1) else .error 62:=by
  unfold zfF; dsimp only; rw [zdj,zwD,if_neg (fun q=>znk q (n:=37) (by omega) h),if_pos h]
theorem zlI (h:zej (s.getD a 0) = true ∨ (s.getD a 0).toNat = 45):zfF (s.drop a) = if (za3 ((s.drop a).take (1 + (zcj (s.drop (a + 1))).length))).2 = 0 then .ok (3,(s.drop a).take (1 + (zcj (s.drop (a + 1))).length),((s.drop a).take (1 + (zcj (s.drop (a + 1))).length)).length) else .error 62:=by
  have hl:¬ zgI (s.getD a 0) = true:=fun q=>by
    rcases h with h | h
    · rw [zuj h] at q; cases q
    · exact znk q (n:=45) O h
  have h37:¬ (s.getD a 0).toNat = 37:=by
    rcases h with h | h
    · have:=zlc h; omega
    · omega
  unfold zfF; dsimp only; rw [zdj,zwD,if_neg hl,if_neg h37,if_pos h]
theorem zx7 (s:Tx) (a:Nat):quoN ((s.drop a).drop 1).length ((s.drop a).drop 1) = zgF s (a + 1):=by
  unfold zgF; rw [zwD,List.length_drop]
theorem zlH (h:(s.getD a 0).toNat = 34):zfF (s.drop a) = match zgF s (a + 1) with
    | none=>.error 61
    | some (t,n)=>.ok (4,t,n + 1):=by
  have hd:¬ (zej (s.getD a 0) = true ∨ (s.getD a 0).toNat = 45):=fun q=>by
    rcases q with q | q
    · have:=zlc q; omega
    · omega
  unfold zfF; dsimp only; rw [zdj,if_neg (fun q=>znk q (n:=34) (by omega) h),if_neg (by omega),if_neg hd,if_pos h,zx7] <;> rfl
theorem zpX (h:(s.getD a 0).toNat = 61):zfF (s.drop a) = .ok (5,[61],1):=by
  have hd:¬ (zej (s.getD a 0) = true ∨ (s.getD a 0).toNat = 45):=fun q=>by
    rcases q with q | q
    · have:=zlc q; omega
    · omega
  unfold zfF; dsimp only; rw [zdj,if_neg (fun q=>znk q (n:=61) (by omega) h),if_neg (by omega),if_neg hd,if_neg (by omega),if_pos h]
theorem zoG (h1:¬ zgI (s.getD a 0) = true) (h2:¬ (s.getD a 0).toNat = 37) (h3:¬ zej (s.getD a 0) = true) (h4:¬ (s.getD a 0).toNat = 45) (h5:¬ (s.getD a 0).toNat = 34) (h6:¬ (s.getD a 0).toNat = 61):zfF (s.drop a) = .error 60:=by
  unfold zfF; dsimp only; rw [zdj,if_neg h1,if_neg h2,if_neg (fun q=>q.elim h3 h4),if_neg h5,if_neg h6]
theorem zpV (h:(s.getD a 0).toNat = 37) (hp:(zba (zcj (s.drop (a + 1)))).isSome = true):zfF (s.drop a) = .ok (2,zcj (s.drop (a + 1)),(zcj (s.drop (a + 1))).length + 1):=by rw [zpW h,if_pos hp]
theorem zvA (h:(s.getD a 0).toNat = 37) (hp:¬ (zba (zcj (s.drop (a + 1)))).isSome = true):zfF (s.drop a) = .error 62:=by rw [zpW h,if_neg hp]
theorem zjf {t:Tx} (h:zej (s.getD a 0) = true ∨ (s.getD a 0).toNat = 45) (ht:(s.drop a).take (1 + (zcj (s.drop (a + 1))).length) = t) (hp:(za3 t).2 = 0):zfF (s.drop a) = .ok (3,t,t.length):=by rw [zlI h,ht,if_pos hp]
theorem zmI {t:Tx} (h:zej (s.getD a 0) = true ∨ (s.getD a 0).toNat = 45) (ht:(s.drop a).take (1 + (zcj (s.drop (a + 1))).length) = t) (hp:¬ (za3 t).2 = 0):zfF (s.drop a) = .error 62:=by rw [zlI h,ht,if_neg hp]
theorem zs3 (h:(s.getD a 0).toNat = 34) (hq:(zvh (zgF s (a + 1))).2 = 0):zfF (s.drop a) = .error 61:=by rw [zlH h,quoP_none.1 hq]
theorem zmH (h:(s.getD a 0).toNat = 34) (hq:¬ (zvh (zgF s (a + 1))).2 = 0):zfF (s.drop a) = .ok (4,(zvh (zgF s (a + 1))).1,(zvh (zgF s (a + 1))).2):=by
  rw [zlH h]
  cases e:zgF s (a + 1) with
  | none=>rw [e] at hq; exact absurd rfl hq
  | some q=>rfl
end
theorem zql (s:Tx):(za3 s).2 = 0 ∨ (za3 s).2 = 62:=by
  unfold za3
  split
  · exact .inl rfl
  · split
    · split
      · split
        · exact .inl rfl
        · exact .inr rfl
      · exact .inr rfl
    · split
      · exact .inr rfl
      · split
        · exact .inl rfl
        · exact .inr rfl
theorem zhb {s t:Tx} {kd:Int} {m:Nat} (h0:0 < s.length) (h:zfF s = .ok (kd,t,m)):1 ≤ m ∧ m ≤ s.length ∧ t.length ≤ m ∧ 1 ≤ kd ∧ kd ≤ 5:=by
  have hs:s.drop 0 = s:=rfl
  have h1:s.drop (0 + 1) = s.drop 1:=rfl
  have hr:=zlM (s.drop 1)
  rw [List.length_drop] at hr
  by_cases hl:zgI (s.getD 0 0) = true
  · have e := ziG (a := 0) hl
    rw [hs,h] at e; cases e
    have:=zlK (s:=s) (i:=0) h0 (run_l hl)
    rw [hs] at this
    exact ⟨by omega,zlM s,Nat.le_refl _,by omega,by omega⟩
  by_cases h37:(s.getD 0 0).toNat = 37
  · have e := zpW (a := 0) h37
    rw [hs,h,h1] at e; split at e
    · cases e; exact ⟨by omega,by omega,by omega,by omega,by omega⟩
    · cases e
  by_cases hd:zej (s.getD 0 0) = true ∨ (s.getD 0 0).toNat = 45
  · have e := zlI (a := 0) hd
    rw [hs,h,h1] at e; split at e
    · cases e
      rw [List.length_take]
      exact ⟨by omega,by omega,by omega,by omega,by omega⟩
    · cases e
  by_cases h34:(s.getD 0 0).toNat = 34
  · have e := zlH (a := 0) h34
    rw [hs,h] at e
    cases hq:zgF s (0 + 1) with
    | none=>rw [hq] at e; cases e
    | some q =>
      rw [hq] at e; cases e
      have hq2:=ztn _ _ q.1 q.2 hq
      rw [List.length_drop] at hq2
      exact ⟨by omega,by omega,by omega,by omega,by omega⟩
  by_cases h61:(s.getD 0 0).toNat = 61
  · have e := zpX (a := 0) h61
    rw [hs,h] at e; cases e
    exact ⟨by omega,by omega,by simp,by omega,by omega⟩
  · have e := zoG (a := 0) hl h37 (fun q => hd (.inl q)) (fun q => hd (.inr q)) h34 h61
    rw [hs,h] at e; cases e
theorem zpZ {s:Tx} {e:Int} (h:zfF s = .error e):e = 60 ∨ e = 61 ∨ e = 62:=by
  unfold zfF at h; dsimp only at h
  split at h
  · cases h
  split at h
  · split at h
    · cases h
    · cases h; omega
  split at h
  · split at h
    · cases h
    · cases h; omega
  split at h
  · split at h
    · cases h; omega
    · cases h
  split at h
  · cases h
  · cases h; omega
theorem zh0:∀ (n m:Nat) (s:Tx) (k:Nat),s.length ≤ n → s.length ≤ m → zcU n s k = zcU m s k
  | 0,0,s,_,_,_=>rfl
  | 0, m + 1, s, k, h, _ => by
    obtain rfl:=List.length_eq_zero_iff.1 (Nat.le_zero.1 h); rfl
  | n + 1, 0, s, k, _, h => by
    obtain rfl:=List.length_eq_zero_iff.1 (Nat.le_zero.1 h); rfl
  | n + 1, m + 1, s, k, h1, h2 => by
    rw [zcU,zcU]
    split
    · rfl
    · rename_i h0
      have h0':0 < s.length:=by rcases Nat.eq_zero_or_pos s.length with h | h; exact absurd (.inl h) h0; exact h
      split
      · exact zh0 n m _ _ (by rw [List.length_drop]; omega) (by rw [List.length_drop]; omega)
      · cases hp : zfF s with
        | error e=>rfl
        | ok q =>
          have:=zhb (kd:=q.1) (t:=q.2.1) (m:=q.2.2) h0' hp
          dsimp only
          rw [zh0 n m (s.drop q.2.2) _ (by rw [List.length_drop]; omega) (by rw [List.length_drop]; omega)]
def zgz (s:Tx) (i:Nat):List TokL × (Int × Int):=zcU (s.length - i) (s.drop i) i
theorem zvx {s:Tx} {i:Nat} (h:s.length ≤ i ∨ (s.getD i 0).toNat = 59):zgz s i = ([],(0,0)):=by
  unfold zgz
  rcases Nat.lt_or_ge i s.length with hi | hi
  · rw [show s.length - i = (s.length - i - 1) + 1 by omega,zcU,if_pos (.inr (by rw [zdj]; rcases h with h | h; omega; exact h))]
  · rw [List.drop_eq_nil_of_le hi,show s.length - i = 0 by omega]; rfl
theorem zlE {s:Tx} {i:Nat} (hi:i < s.length) (h1:¬ (s.getD i 0).toNat = 59):zgz s i = if zb1 (s.getD i 0) = true then zcU (s.length - i - 1) (s.drop (i + 1)) (i + 1) else match zfF (s.drop i) with
    | .error e=>([],(e,(i:Int)))
    | .ok (kd,t,m) =>
        let r:=zcU (s.length - i - 1) ((s.drop i).drop m) (i + m)
        if r.2.1 = 0 then (⟨kd,t,(i:Int)⟩ :: r.1,(0,0)) else ([],r.2):=by
  unfold zgz
  rw [show s.length - i = (s.length - i - 1) + 1 by omega,zcU,if_neg (by rw [zdj,List.length_drop]; omega),zdj,zwD]; rfl
theorem zra {s:Tx} {i:Nat} (hi:i < s.length) (h1:¬ (s.getD i 0).toNat = 59) (h2:zb1 (s.getD i 0) = true):zgz s i = zgz s (i + 1):=by
  rw [zlE hi h1,if_pos h2]; unfold zgz; rw [show s.length - i - 1 = s.length - (i + 1) by omega]
theorem zvw {s:Tx} {i:Nat} {e:Int} (hi:i < s.length) (h1:¬ (s.getD i 0).toNat = 59) (h2:¬ zb1 (s.getD i 0) = true) (h:zfF (s.drop i) = .error e):zgz s i = ([],(e,(i:Int))):=by
  rw [zlE hi h1,if_neg h2,h]
theorem zxT {s t:Tx} {i m:Nat} {kd:Int} (hi:i < s.length) (h1:¬ (s.getD i 0).toNat = 59) (h2:¬ zb1 (s.getD i 0) = true) (h:zfF (s.drop i) = .ok (kd,t,m)):zgz s i = if (zgz s (i + m)).2.1 = 0 then (⟨kd,t,(i:Int)⟩ :: (zgz s (i + m)).1,(0,0)) else ([],(zgz s (i + m)).2):=by
  rw [zlE hi h1,if_neg h2,h]
  have hm:=zhb (by rw [List.length_drop]; omega) h
  rw [List.length_drop] at hm
  dsimp only
  unfold zgz
  rw [List.drop_drop,zh0 (s.length - i - 1) (s.length - (i + m)) _ _ (by rw [List.length_drop]; omega) (by rw [List.length_drop]; omega)]
theorem zvz (s:Tx):zbn s = zgz s 0:=rfl
def ztR (l:List TokL) (r:List TokL × (Int × Int)):List TokL × (Int × Int):=if r.2.1 = 0 then (l ++ r.1,(0,0)) else ([],r.2)
def zlG (s:Tx) (i:Nat) (l:List TokL):Prop:=i ≤ s.length ∧ l.length ≤ i ∧ zbn s = ztR l (zgz s i)
theorem zhZ:∀ (n:Nat) (s:Tx) (k:Nat),(zcU n s k).2.1 = 0 → (zcU n s k).2 = (0,0)
  | 0,s,k,_=>rfl
  | n + 1, s, k, h => by
    rw [zcU] at h ⊢
    split
    · rfl
    · rename_i h0
      rw [if_neg h0] at h
      split
      · rename_i hb; rw [if_pos hb] at h; exact zhZ n _ _ h
      · rename_i hb
        rw [if_neg hb] at h
        cases hp:zfF s with
        | error e =>
          rw [hp] at h; dsimp only at h
          have:=zpZ hp; omega
        | ok q =>
          rw [hp] at h
          dsimp only at h ⊢
          split
          · rfl
          · rename_i h3
            rw [if_neg h3] at h
            exact absurd h h3
theorem zoD (s:Tx):zlG s 0 []:=by
  refine ⟨Nat.zero_le _,Nat.le_refl _,?_⟩
  unfold ztR; rw [← zvz]
  split
  · rename_i h; have:=zhZ _ _ _ h; exact Prod.ext rfl this
  · rename_i h
    have:(zbn s).1 = []:=by
      have hz:∀ (n:Nat) (s:Tx) (k:Nat),¬ (zcU n s k).2.1 = 0 → (zcU n s k).1 = []:=fun n=>by
        induction n with
        | zero=>intro s k h; exact absurd rfl h
        | succ n ih =>
          intro s k h
          rw [zcU] at h ⊢
          split
          · rfl
          · rename_i h0; rw [if_neg h0] at h
            split
            · rename_i hb; rw [if_pos hb] at h; exact ih _ _ h
            · rename_i hb; rw [if_neg hb] at h
              cases hp:zfF s with
              | error e=>rfl
              | ok q =>
                rw [hp] at h; dsimp only at h ⊢
                split
                · rename_i h3; rw [if_pos h3] at h; exact absurd rfl h
                · rfl
      exact hz _ _ _ h
    exact Prod.ext this rfl
theorem zoE {s:Tx} {i:Nat} {l:List TokL} (h:zlG s i l) (hi:i < s.length) (h1:¬ (s.getD i 0).toNat = 59) (h2:zb1 (s.getD i 0) = true):zlG s (i + 1) l :=
  ⟨hi,by have:=h.2.1; omega,by rw [h.2.2,zra hi h1 h2]⟩
theorem zmF {s:Tx} {i:Nat} {l:List TokL} (h:zlG s i l) (h1:s.length ≤ i ∨ (s.getD i 0).toNat = 59):zbn s = (l,(0,0)):=by
  rw [h.2.2,zvx h1]; unfold ztR; rw [if_pos rfl,List.append_nil]
theorem zs2 {s:Tx} {i:Nat} {l:List TokL} {e:Int} (h:zlG s i l) (hi:i < s.length) (h1:¬ (s.getD i 0).toNat = 59) (h2:¬ zb1 (s.getD i 0) = true) (h3:zfF (s.drop i) = .error e):zbn s = ([],(e,(i:Int))):=by
  have he:=zpZ h3
  rw [h.2.2,zvw hi h1 h2 h3]; unfold ztR; rw [if_neg (by dsimp only; omega)]
theorem zvy {s t:Tx} {i m:Nat} {kd:Int} {l:List TokL} (h:zlG s i l) (hi:i < s.length) (h1:¬ (s.getD i 0).toNat = 59) (h2:¬ zb1 (s.getD i 0) = true) (h3:zfF (s.drop i) = .ok (kd,t,m)):zlG s (i + m) (l ++ [⟨kd,t,(i:Int)⟩]):=by
  have hm:=zhb (by rw [List.length_drop]; omega) h3
  rw [List.length_drop] at hm
  refine ⟨by omega,by rw [List.length_append,List.length_singleton]; have:=h.2.1; omega,?_⟩
  rw [h.2.2,zxT hi h1 h2 h3]
  unfold ztR
  by_cases hz:(zgz s (i + m)).2.1 = 0
  · rw [if_pos hz,if_pos rfl,if_pos hz,List.append_assoc]; rfl
  · rw [if_neg hz,if_neg hz,if_neg hz]
def zeJ (t:TokL):List Value:=[.int .u8 t.kind,str t.text,.int .i64 t.at_]
theorem zcP (t:TokL):(zeJ t).length = 3:=rfl
def zaM:TokL:=⟨0,[],0⟩
open Go.RowKit
theorem Pick.k1 {x0:Res} {L L':List Res} (h:Pick L' L):Pick (x0 :: L') (x0 :: L):=.cons .here (h)
theorem Pick.k2 {x0 x1:Res} {L L':List Res} (h:Pick L' L):Pick (x0 :: x1 :: L') (x0 :: x1 :: L):=.cons .here (.cons .here (h))
theorem Pick.k3 {x0 x1 x2:Res} {L L':List Res} (h:Pick L' L):Pick (x0 :: x1 :: x2 :: L') (x0 :: x1 :: x2 :: L):=.cons .here (.cons .here (.cons .here (h)))
theorem Pick.k4 {x0 x1 x2 x3:Res} {L L':List Res} (h:Pick L' L):Pick (x0 :: x1 :: x2 :: x3 :: L') (x0 :: x1 :: x2 :: x3 :: L):=.cons .here (.cons .here (.cons .here (.cons .here (h))))
theorem Pick.k5 {x0 x1 x2 x3 x4:Res} {L L':List Res} (h:Pick L' L):Pick (x0 :: x1 :: x2 :: x3 :: x4 :: L') (x0 :: x1 :: x2 :: x3 :: x4 :: L):=.cons .here (.cons .here (.cons .here (.cons .here (.cons .here (h)))))
theorem Pick.k6 {x0 x1 x2 x3 x4 x5:Res} {L L':List Res} (h:Pick L' L):Pick (x0 :: x1 :: x2 :: x3 :: x4 :: x5 :: L') (x0 :: x1 :: x2 :: x3 :: x4 :: x5 :: L):=.cons .here (.cons .here (.cons .here (.cons .here (.cons .here (.cons .here (h))))))
theorem Pick.k7 {x0 x1 x2 x3 x4 x5 x6:Res} {L L':List Res} (h:Pick L' L):Pick (x0 :: x1 :: x2 :: x3 :: x4 :: x5 :: x6 :: L') (x0 :: x1 :: x2 :: x3 :: x4 :: x5 :: x6 :: L):=.cons .here (.cons .here (.cons .here (.cons .here (.cons .here (.cons .here (.cons .here (h)))))))
theorem Pick.c {r:Res} {A B L':List Res} (hr:Rem r A B) (h:Pick L' B):Pick (r :: L') A:=.cons hr h
abbrev AT (T:Nat) (ao:Option Addr) (cp:Nat) (l:List TokL):Res:=Res.sl ao l.length cp T 3 (l.flatMap zeJ)
theorem Ar {α:Type _} {a:α} {L M:List α} (h:a ∈ M):a ∈ L ++ M:=List.mem_append_right _ h
theorem Al {α:Type _} {a:α} {L M:List α} (h:a ∈ L):a ∈ L ++ M:=List.mem_append_left _ h
end Go.SK
namespace Go.SK
open Go Go.Proofs Go.Shelf Go.Proofs.Tryz
def zgG:Go.Shelf.Ren:=⟨fun | 156=>116 | 165=>166 | 166=>95 | 169=>51 | 240=>150 | 241=>204 | 276=>194 | 277=>224 | n=>n,fun | 31=>155 | 9=>9 | 3=>3 | 4=>4 | 0=>0 | 20=>20 | 72=>90 | 76=>164 | 70=>88 | 37=>38 | 75=>151 | 127=>169 | 164=>255 | 5=>5 | 80=>97 | n=>n,fun | n=>n⟩
theorem zk0:Go.Proofs.Lays.n156 prog zgG:={
 mixed:=by kernel_rfl
 f156:=func116.trans (congrArg some Kr)
 f165:=func166.trans (congrArg some Kr)
 f166:=func95.trans (congrArg some Kr)
 f169:=func51.trans (congrArg some Kr)
 f240:=func150.trans (congrArg some Kr)
 f241:=func204.trans (congrArg some Kr)
 f276:=func194.trans (congrArg some Kr)
 f277:=func224.trans (congrArg some Kr)
 t0:=underlying0
 a0:=isAgg0
 z0:=sizeOf0
 v0:=zeroValue0
 t3:=underlying3
 a3:=isAgg3
 z3:=sizeOf3
 v3:=zeroValue3
 t4:=underlying4
 a4:=isAgg4
 z4:=sizeOf4
 v4:=zeroValue4
 t9:=underlying9
 a9:=isAgg9
 z9:=sizeOf9
 v9:=zeroValue9
 t20:=underlying20
 a20:=isAgg20
 z20:=sizeOf20
 v20:=zeroValue20
 t31:=underlying155
 a31:=isAgg155
 z31:=sizeOf155
 v31:=zeroValue155
 t37:=underlying38
 a37:=isAgg38
 z37:=sizeOf38
 v37:=zeroValue38
 t70:=underlying88
 a70:=isAgg88
 z70:=sizeOf88
 v70:=zeroValue88
 t72:=underlying90
 a72:=isAgg90
 z72:=sizeOf90
 v72:=zeroValue90
 t75:=underlying151
 a75:=isAgg151
 z75:=sizeOf151
 v75:=zeroValue151
 t76:=underlying164
 a76:=isAgg164
 z76:=sizeOf164
 v76:=zeroValue164
 t127:=underlying169
 a127:=isAgg169
 z127:=sizeOf169
 v127:=zeroValue169
 t164:=underlying255
 a164:=isAgg255
 z164:=sizeOf255
 v164:=zeroValue255 }
theorem zjA:Builder.Extra prog zgG:={
 sizeBuilder:=by kernel_rfl
 liesBuilder:=by kernel_rfl
 t5:=underlying5
 a5:=isAgg5
 z5:=sizeOf5
 v5:=zeroValue5
 infoByte:=by kernel_rfl
 cellsByte:=by kernel_rfl
 sizeByte:=by kernel_rfl
 neB5:=by decide }
def zkv:Go.Shelf.Ren:=⟨fun | 137=>87 | 217=>146 | 266=>193 | n=>n,fun | 9=>9 | 5=>5 | 3=>3 | n=>n,fun | n=>n⟩
theorem zrK:Go.Proofs.Lays.n137 prog zkv:={
 mixed:=by kernel_rfl
 f137:=func87.trans (congrArg some Kr)
 f217:=func146.trans (congrArg some Kr)
 f266:=func193.trans (congrArg some Kr)
 t3:=underlying3
 a3:=isAgg3
 z3:=sizeOf3
 v3:=zeroValue3
 t5:=underlying5
 a5:=isAgg5
 z5:=sizeOf5
 v5:=zeroValue5
 t9:=underlying9
 a9:=isAgg9
 z9:=sizeOf9
 v9:=zeroValue9 }
def zkw:Go.Shelf.Ren:=⟨fun | 103=>84 | 210=>143 | 206=>186 | n=>n,fun | 9=>9 | 4=>4 | 24=>146 | 3=>3 | n=>n,fun | n=>n⟩
theorem zrL:Go.Proofs.Lays.n103 prog zkw:={
 mixed:=by kernel_rfl
 f103:=func84.trans (congrArg some Kr)
 f206:=func186.trans (congrArg some Kr)
 f210:=func143.trans (congrArg some Kr)
 t3:=underlying3
 a3:=isAgg3
 z3:=sizeOf3
 v3:=zeroValue3
 t4:=underlying4
 a4:=isAgg4
 z4:=sizeOf4
 v4:=zeroValue4
 t9:=underlying9
 a9:=isAgg9
 z9:=sizeOf9
 v9:=zeroValue9
 t24:=underlying146
 a24:=isAgg146
 z24:=sizeOf146
 v24:=zeroValue146 }
def zkt:Go.Shelf.Ren:=⟨fun | 283=>195 | n=>n,fun | 3=>3 | 9=>9 | 4=>4 | n=>n,fun | n=>n⟩
theorem zrI:Go.Proofs.Lays.n283 prog zkt:={
 mixed:=by kernel_rfl
 f283:=func195.trans (congrArg some Kr)
 t3:=underlying3
 a3:=isAgg3
 z3:=sizeOf3
 v3:=zeroValue3
 t4:=underlying4
 a4:=isAgg4
 z4:=sizeOf4
 v4:=zeroValue4
 t9:=underlying9
 a9:=isAgg9
 z9:=sizeOf9
 v9:=zeroValue9 }
def zjy:Go.Shelf.Ren:=⟨fun | 284=>196 | 129=>217 | 317=>216 | 318=>218 | n=>n,fun | 53=>149 | 3=>3 | 212=>278 | 0=>0 | 4=>4 | 46=>170 | 5=>5 | 9=>9 | n=>n,fun | 17=>3 | n=>n⟩
theorem zoY:Go.Proofs.LaysM.n284 prog zjy:={
 mixed:=by kernel_rfl
 f129:=func217.trans (congrArg some Kr)
 f284:=func196.trans (congrArg some Kr)
 f317:=func216.trans (congrArg some Kr)
 f318:=func218.trans (congrArg some Kr)
 t0:=underlying0
 a0:=isAgg0
 z0:=sizeOf0
 v0:=zeroValue0
 t3:=underlying3
 a3:=isAgg3
 z3:=sizeOf3
 v3:=zeroValue3
 t4:=underlying4
 a4:=isAgg4
 z4:=sizeOf4
 v4:=zeroValue4
 t5:=underlying5
 a5:=isAgg5
 z5:=sizeOf5
 v5:=zeroValue5
 t9:=underlying9
 a9:=isAgg9
 z9:=sizeOf9
 v9:=zeroValue9
 t46:=underlying170
 a46:=isAgg170
 z46:=sizeOf170
 v46:=zeroValue170
 t53:=underlying149
 a53:=isAgg149
 z53:=sizeOf149
 v53:=zeroValue149
 t212:=underlying278
 a212:=isAgg278
 z212:=sizeOf278
 v212:=zeroValue278
 g17:=by kernel_rfl
 i0:=by kernel_rfl
 i3:=by kernel_rfl
 i4:=by kernel_rfl
 i5:=by kernel_rfl
 i9:=by kernel_rfl
 i46:=by kernel_rfl
 i53:=by kernel_rfl
 i212:=by kernel_rfl
 m17:=by kernel_rfl }
def zks:Go.Shelf.Ren:=⟨fun | 285=>197 | n=>n,fun | 37=>38 | 53=>149 | 3=>3 | 4=>4 | 51=>22 | 9=>9 | 5=>5 | 0=>0 | n=>n,fun | n=>n⟩
theorem zrH:Go.Proofs.Lays.n285 prog zks:={
 mixed:=by kernel_rfl
 f285:=func197.trans (congrArg some Kr)
 t0:=underlying0
 a0:=isAgg0
 z0:=sizeOf0
 v0:=zeroValue0
 t3:=underlying3
 a3:=isAgg3
 z3:=sizeOf3
 v3:=zeroValue3
 t4:=underlying4
 a4:=isAgg4
 z4:=sizeOf4
 v4:=zeroValue4
 t5:=underlying5
 a5:=isAgg5
 z5:=sizeOf5
 v5:=zeroValue5
 t9:=underlying9
 a9:=isAgg9
 z9:=sizeOf9
 v9:=zeroValue9
 t37:=underlying38
 a37:=isAgg38
 z37:=sizeOf38
 v37:=zeroValue38
 t51:=underlying22
 a51:=isAgg22
 z51:=sizeOf22
 v51:=zeroValue22
 t53:=underlying149
 a53:=isAgg149
 z53:=sizeOf149
 v53:=zeroValue149 }
def zjz:Go.Shelf.Ren:=⟨fun | 245=>145 | 279=>189 | 280=>190 | 281=>191 | 282=>192 | 316=>213 | 171=>215 | 205=>214 | 243=>226 | 246=>229 | 283=>195 | 284=>196 | 285=>197 | 286=>198 | 129=>217 | 317=>216 | 318=>218 | 319=>219 | 320=>220 | 337=>227 | 338=>228 | n=>n,fun | 9=>9 | 3=>3 | 75=>151 | 167=>251 | 4=>4 | 168=>252 | 210=>275 | 37=>38 | 0=>0 | 127=>169 | 145=>290 | 143=>288 | 2=>2 | 171=>258 | 53=>149 | 5=>5 | 173=>261 | 212=>278 | 51=>22 | 20=>20 | 213=>279 | 46=>170 | 232=>293 | 233=>294 | 80=>97 | n=>n,fun | 15=>1 | 16=>2 | 17=>3 | 18=>4 | 19=>5 | n=>n⟩
theorem zoZ:Go.Proofs.LaysC.n245 prog zjz:={
 mixed:=by kernel_rfl
 f129:=func217.trans (congrArg some Kr)
 f171:=func215.trans (congrArg some Kr)
 f205:=func214.trans (congrArg some Kr)
 f243:=func226.trans (congrArg some Kr)
 f245:=func145.trans (congrArg some Kr)
 f246:=func229.trans (congrArg some Kr)
 f279:=func189.trans (congrArg some Kr)
 f280:=func190.trans (congrArg some Kr)
 f281:=func191.trans (congrArg some Kr)
 f282:=func192.trans (congrArg some Kr)
 f283:=func195.trans (congrArg some Kr)
 f284:=func196.trans (congrArg some Kr)
 f285:=func197.trans (congrArg some Kr)
 f286:=func198.trans (congrArg some Kr)
 f316:=func213.trans (congrArg some Kr)
 f317:=func216.trans (congrArg some Kr)
 f318:=func218.trans (congrArg some Kr)
 f319:=func219.trans (congrArg some Kr)
 f320:=func220.trans (congrArg some Kr)
 f337:=func227.trans (congrArg some Kr)
 f338:=func228.trans (congrArg some Kr)
 t0:=underlying0
 a0:=isAgg0
 z0:=sizeOf0
 v0:=zeroValue0
 t2:=underlying2
 a2:=isAgg2
 z2:=sizeOf2
 v2:=zeroValue2
 t3:=underlying3
 a3:=isAgg3
 z3:=sizeOf3
 v3:=zeroValue3
 t4:=underlying4
 a4:=isAgg4
 z4:=sizeOf4
 v4:=zeroValue4
 t5:=underlying5
 a5:=isAgg5
 z5:=sizeOf5
 v5:=zeroValue5
 t9:=underlying9
 a9:=isAgg9
 z9:=sizeOf9
 v9:=zeroValue9
 t20:=underlying20
 a20:=isAgg20
 z20:=sizeOf20
 v20:=zeroValue20
 t37:=underlying38
 a37:=isAgg38
 z37:=sizeOf38
 v37:=zeroValue38
 t46:=underlying170
 a46:=isAgg170
 z46:=sizeOf170
 v46:=zeroValue170
 t51:=underlying22
 a51:=isAgg22
 z51:=sizeOf22
 v51:=zeroValue22
 t53:=underlying149
 a53:=isAgg149
 z53:=sizeOf149
 v53:=zeroValue149
 t75:=underlying151
 a75:=isAgg151
 z75:=sizeOf151
 v75:=zeroValue151
 t127:=underlying169
 a127:=isAgg169
 z127:=sizeOf169
 v127:=zeroValue169
 t143:=underlying288
 a143:=isAgg288
 z143:=sizeOf288
 v143:=zeroValue288
 t145:=underlying290
 a145:=isAgg290
 z145:=sizeOf290
 v145:=zeroValue290
 t167:=underlying251
 a167:=isAgg251
 z167:=sizeOf251
 v167:=zeroValue251
 t168:=underlying252
 a168:=isAgg252
 z168:=sizeOf252
 v168:=zeroValue252
 t171:=underlying258
 a171:=isAgg258
 z171:=sizeOf258
 v171:=zeroValue258
 t173:=underlying261
 a173:=isAgg261
 z173:=sizeOf261
 v173:=zeroValue261
 t210:=underlying275
 a210:=isAgg275
 z210:=sizeOf275
 v210:=zeroValue275
 t212:=underlying278
 a212:=isAgg278
 z212:=sizeOf278
 v212:=zeroValue278
 t213:=underlying279
 a213:=isAgg279
 z213:=sizeOf279
 t232:=underlying293
 a232:=isAgg293
 z232:=sizeOf293
 v232:=zeroValue293
 t233:=underlying294
 a233:=isAgg294
 z233:=sizeOf294
 v233:=zeroValue294
 g15:=by kernel_rfl
 g16:=by kernel_rfl
 g17:=by kernel_rfl
 g18:=by kernel_rfl
 g19:=by kernel_rfl
 t80:=underlying97
 a80:=isAgg97
 z80:=sizeOf97
 v80:=zeroValue97
 i0:=by kernel_rfl
 i2:=by kernel_rfl
 i3:=by kernel_rfl
 i4:=by kernel_rfl
 i5:=by kernel_rfl
 i9:=by kernel_rfl
 i20:=by kernel_rfl
 i37:=by kernel_rfl
 i46:=by kernel_rfl
 i51:=by kernel_rfl
 i53:=by kernel_rfl
 i75:=by kernel_rfl
 i80:=by kernel_rfl
 i127:=by kernel_rfl
 i143:=by kernel_rfl
 i145:=by kernel_rfl
 i167:=by kernel_rfl
 i168:=by kernel_rfl
 i171:=by kernel_rfl
 i173:=by kernel_rfl
 i210:=by kernel_rfl
 i212:=by kernel_rfl
 i232:=by kernel_rfl
 i233:=by kernel_rfl
 m15:=by kernel_rfl
 m16:=by kernel_rfl
 m17:=by kernel_rfl
 m18:=by kernel_rfl
 m19:=by kernel_rfl
 c0:=by kernel_rfl
 c2:=by kernel_rfl
 c3:=by kernel_rfl
 c4:=by kernel_rfl
 c5:=by kernel_rfl
 c9:=by kernel_rfl
 c20:=by kernel_rfl
 c37:=by kernel_rfl
 c46:=by kernel_rfl
 c51:=by kernel_rfl
 c53:=by kernel_rfl
 c75:=by kernel_rfl
 c80:=by kernel_rfl
 c127:=by kernel_rfl
 c143:=by kernel_rfl
 c145:=by kernel_rfl
 c167:=by kernel_rfl
 c168:=by kernel_rfl
 c171:=by kernel_rfl
 c173:=by kernel_rfl
 c210:=by kernel_rfl
 c212:=by kernel_rfl
 c213:=by kernel_rfl
 c232:=by kernel_rfl
 c233:=by kernel_rfl }
def zkr:Go.Shelf.Ren:=⟨fun | 321=>187 | n=>n,fun | 5=>5 | n=>n,fun | n=>n⟩
theorem zrG:Go.Proofs.Lays.n321 prog zkr:={
 mixed:=by kernel_rfl
 f321:=func187.trans (congrArg some Kr)
 t5:=underlying5
 a5:=isAgg5
 z5:=sizeOf5
 v5:=zeroValue5 }
def zjx:Go.Shelf.Ren:=⟨fun | 14=>86 | 16=>144 | 17=>145 | 19=>187 | 20=>188 | 21=>189 | 22=>190 | 23=>191 | 24=>192 | 25=>213 | 27=>215 | 26=>214 | 28=>226 | 29=>229 | 30=>195 | 31=>196 | 32=>197 | 33=>198 | 35=>217 | 34=>216 | 36=>218 | 37=>219 | 38=>220 | 39=>227 | 40=>228 | n=>n,fun | 9=>9 | 3=>3 | 22=>149 | 24=>151 | 25=>152 | 4=>4 | 34=>251 | 5=>5 | 36=>170 | 37=>38 | 0=>0 | 39=>252 | 21=>21 | 44=>275 | 47=>169 | 50=>290 | 48=>288 | 2=>2 | 52=>258 | 55=>261 | 59=>278 | 60=>22 | 20=>20 | 61=>279 | 65=>293 | 66=>294 | 67=>97 | n=>n,fun | 0=>1 | 1=>2 | 2=>3 | 3=>4 | 4=>5 | n=>n⟩
theorem zgU:Go.Proofs.LaysPu.n14 prog zjx:={
 mixed:=by kernel_rfl
 f14:=func86.trans (congrArg some Kr)
 f16:=func144.trans (congrArg some Kr)
 f17:=func145.trans (congrArg some Kr)
 f19:=func187.trans (congrArg some Kr)
 f20:=func188.trans (congrArg some Kr)
 f21:=func189.trans (congrArg some Kr)
 f22:=func190.trans (congrArg some Kr)
 f23:=func191.trans (congrArg some Kr)
 f24:=func192.trans (congrArg some Kr)
 f25:=func213.trans (congrArg some Kr)
 f26:=func214.trans (congrArg some Kr)
 f27:=func215.trans (congrArg some Kr)
 f28:=func226.trans (congrArg some Kr)
 f29:=func229.trans (congrArg some Kr)
 f30:=func195.trans (congrArg some Kr)
 f31:=func196.trans (congrArg some Kr)
 f32:=func197.trans (congrArg some Kr)
 f33:=func198.trans (congrArg some Kr)
 f34:=func216.trans (congrArg some Kr)
 f35:=func217.trans (congrArg some Kr)
 f36:=func218.trans (congrArg some Kr)
 f37:=func219.trans (congrArg some Kr)
 f38:=func220.trans (congrArg some Kr)
 f39:=func227.trans (congrArg some Kr)
 f40:=func228.trans (congrArg some Kr)
 t0:=underlying0
 a0:=isAgg0
 z0:=sizeOf0
 v0:=zeroValue0
 i0:=by kernel_rfl
 t2:=underlying2
 a2:=isAgg2
 z2:=sizeOf2
 v2:=zeroValue2
 i2:=by kernel_rfl
 t3:=underlying3
 a3:=isAgg3
 z3:=sizeOf3
 v3:=zeroValue3
 i3:=by kernel_rfl
 t4:=underlying4
 a4:=isAgg4
 z4:=sizeOf4
 v4:=zeroValue4
 i4:=by kernel_rfl
 t5:=underlying5
 a5:=isAgg5
 z5:=sizeOf5
 v5:=zeroValue5
 i5:=by kernel_rfl
 t9:=underlying9
 a9:=isAgg9
 z9:=sizeOf9
 v9:=zeroValue9
 i9:=by kernel_rfl
 t20:=underlying20
 a20:=isAgg20
 z20:=sizeOf20
 v20:=zeroValue20
 i20:=by kernel_rfl
 t21:=underlying21
 a21:=isAgg21
 z21:=sizeOf21
 v21:=zeroValue21
 i21:=by kernel_rfl
 t22:=underlying149
 a22:=isAgg149
 z22:=sizeOf149
 v22:=zeroValue149
 i22:=by kernel_rfl
 t24:=underlying151
 a24:=isAgg151
 z24:=sizeOf151
 v24:=zeroValue151
 i24:=by kernel_rfl
 t25:=underlying152
 a25:=isAgg152
 z25:=sizeOf152
 v25:=zeroValue152
 i25:=by kernel_rfl
 t34:=underlying251
 a34:=isAgg251
 z34:=sizeOf251
 v34:=zeroValue251
 i34:=by kernel_rfl
 c34:=by kernel_rfl
 t36:=underlying170
 a36:=isAgg170
 z36:=sizeOf170
 v36:=zeroValue170
 i36:=by kernel_rfl
 t37:=underlying38
 a37:=isAgg38
 z37:=sizeOf38
 v37:=zeroValue38
 i37:=by kernel_rfl
 t39:=underlying252
 a39:=isAgg252
 z39:=sizeOf252
 v39:=zeroValue252
 i39:=by kernel_rfl
 t44:=underlying275
 a44:=isAgg275
 z44:=sizeOf275
 v44:=zeroValue275
 i44:=by kernel_rfl
 t47:=underlying169
 a47:=isAgg169
 z47:=sizeOf169
 v47:=zeroValue169
 i47:=by kernel_rfl
 t48:=underlying288
 a48:=isAgg288
 z48:=sizeOf288
 v48:=zeroValue288
 i48:=by kernel_rfl
 t50:=underlying290
 a50:=isAgg290
 z50:=sizeOf290
 v50:=zeroValue290
 i50:=by kernel_rfl
 t52:=underlying258
 a52:=isAgg258
 z52:=sizeOf258
 v52:=zeroValue258
 i52:=by kernel_rfl
 t55:=underlying261
 a55:=isAgg261
 z55:=sizeOf261
 v55:=zeroValue261
 i55:=by kernel_rfl
 t59:=underlying278
 a59:=isAgg278
 z59:=sizeOf278
 v59:=zeroValue278
 i59:=by kernel_rfl
 t60:=underlying22
 a60:=isAgg22
 z60:=sizeOf22
 v60:=zeroValue22
 i60:=by kernel_rfl
 t61:=underlying279
 a61:=isAgg279
 z61:=sizeOf279
 t65:=underlying293
 a65:=isAgg293
 z65:=sizeOf293
 v65:=zeroValue293
 i65:=by kernel_rfl
 t66:=underlying294
 a66:=isAgg294
 z66:=sizeOf294
 v66:=zeroValue294
 i66:=by kernel_rfl
 t67:=underlying97
 a67:=isAgg97
 z67:=sizeOf97
 v67:=zeroValue97
 i67:=by kernel_rfl
 g0:=by kernel_rfl
 m0:=by kernel_rfl
 g1:=by kernel_rfl
 m1:=by kernel_rfl
 g2:=by kernel_rfl
 m2:=by kernel_rfl
 g3:=by kernel_rfl
 m3:=by kernel_rfl
 g4:=by kernel_rfl
 m4:=by kernel_rfl }
def zku:Go.Shelf.Ren:=⟨fun | 219=>185 | 217=>146 | 225=>210 | 224=>211 | 267=>212 | 266=>193 | 314=>225 | n=>n,fun | 9=>9 | 3=>3 | 4=>4 | 5=>5 | 46=>170 | 146=>286 | 51=>22 | n=>n,fun | 1=>0 | n=>n⟩
theorem zrJ:Go.Proofs.Lays.n219 prog zku:={
 mixed:=by kernel_rfl
 f217:=func146.trans (congrArg some Kr)
 f219:=func185.trans (congrArg some Kr)
 f224:=func211.trans (congrArg some Kr)
 f225:=func210.trans (congrArg some Kr)
 f266:=func193.trans (congrArg some Kr)
 f267:=func212.trans (congrArg some Kr)
 f314:=func225.trans (congrArg some Kr)
 t3:=underlying3
 a3:=isAgg3
 z3:=sizeOf3
 v3:=zeroValue3
 t4:=underlying4
 a4:=isAgg4
 z4:=sizeOf4
 v4:=zeroValue4
 t5:=underlying5
 a5:=isAgg5
 z5:=sizeOf5
 v5:=zeroValue5
 t9:=underlying9
 a9:=isAgg9
 z9:=sizeOf9
 v9:=zeroValue9
 t46:=underlying170
 a46:=isAgg170
 z46:=sizeOf170
 v46:=zeroValue170
 t51:=underlying22
 a51:=isAgg22
 z51:=sizeOf22
 v51:=zeroValue22
 t146:=underlying286
 a146:=isAgg286
 z146:=sizeOf286
 v146:=zeroValue286
 g1:=by kernel_rfl }
end Go.SK
namespace Go.SK
open Go Go.Proofs Go.Proofs.Tryz
theorem ty5:TyF prog 5 (.int .u8) 1 1 [.int .u8 0]:=zbp Kr Kr
theorem zca:TyF prog 149 (.int .u64) 1 8 [.int .u64 0]:=zbp Kr Kr
open Go.RowKit
theorem zeg (c:UInt8) (w:World):Ret prog 79 #[.int .u8 (c.toNat:Int)] w (fun v w'=>v = .int .i64 (zeV c) ∧ St w NoM [] [] w'):=by
 refine zav (args:=[.int .u8 (c.toNat:Int)]) func79 Z Z Z ?_
 have V:=St.init w
 refine SR<|AI Z<|G<|SQ<|zak<|SQ<|SR<|MC Z<|Q<|zam Z Z<|AB Z<|G<|zab Z (fun g1=>?_) (fun g1=>?_)
 ·refine zag <| zas (Vb (Dt g1)) <| SR <| AI Z <| G <| zai func79 Z (TP (v := .int .i64 _) Z) <| ⟨Vi ?_, V.pure⟩
  first | exact (zem O).symm | exact (zel O O).symm | exact (zek O).symm | exact (zen O O O).symm
 refine SR<|MC Z<|Q<|zam Z Z<|AB Z<|G<|zab Z (fun g2=>?_) (fun g2=>?_)
 ·refine zag <| zas (Vb (Dt g2)) <| SR <| AI Z <| G <| zai func79 Z (TP (v := .int .i64 _) Z) <| ⟨Vi ?_, V.pure⟩
  first | exact (zem O).symm | exact (zel O O).symm | exact (zek O).symm | exact (zen O O O).symm
 refine RG<|MC Z<|Q<|zam Z Z<|AB Z<|G<|zab Z (fun g3=>?_) (fun g3=>?_)
 ·refine SR <| AI Z <| G <| zai func79 Z (TP (v := .int .i64 _) Z) <| ⟨Vi ?_, V.pure⟩
  first | exact (zem O).symm | exact (zel O O).symm | exact (zek O).symm | exact (zen O O O).symm
 refine SQ<|SR<|MC Z<|Q<|zbh Z Z<|MB Z<|zau (d:=13) Z (fun g4=>?_) (fun g4=>?_)
 ·refine TK (t := 13) Z (Vb (Dt g4)) <| zad (v := .int .u8 _) Z <| TK (t := 13) Z (Vb (Dt g4)) <| zbU Z Z <| Q <| zaB (u := .bool _) (Vb (Dt g4)) Z <| AB Z <| G <| zab Z (fun g5 => ?_) (fun g5 => ?_)
  ·refine zag <| zas (Vb (Dt g5)) <| SR <| AI Z <| G <| zai func79 Z (TP (v := .int .i64 _) Z) <| ⟨Vi ?_, V.pure⟩
   first | exact (zem O).symm | exact (zel O O).symm | exact (zek O).symm | exact (zen O O O).symm
  refine SR<|MC Z<|Q<|zbh Z Z<|MB Z<|zau (d:=19) Z (fun g6=>?_) (fun g6=>?_)
  ·refine TK (t := 19) Z (Vb (Dt g6)) <| zad (v := .int .u8 _) Z <| TK (t := 19) Z (Vb (Dt g6)) <| zbU Z Z <| Q <| zaB (u := .bool _) (Vb (Dt g6)) Z <| AB Z <| G <| zaj [(0, .int .u8 _), (10, .bool _)] E2 fun f => zab Z (fun g7 => ?_) (fun g7 => ?_)
   ·refine zag <| zas (Vb (Dt g7)) <| SR <| AI Z <| G <| zai func79 Z (TP (v := .int .i64 _) Z) <| ⟨Vi ?_, V.pure⟩
    first | exact (zem O).symm | exact (zel O O).symm | exact (zek O).symm | exact (zen O O O).symm
   refine RG<|MC Z<|Q<|zam Z Z<|AB Z<|G<|zab Z (fun g8=>?_) (fun g8=>?_)
   ·refine SR <| AI Z <| G <| zai func79 Z (TP (v := .int .i64 _) Z) <| ⟨Vi ?_, V.pure⟩
    first | exact (zem O).symm | exact (zel O O).symm | exact (zek O).symm | exact (zen O O O).symm
   refine SR<|MC Z<|Q<|zbh Z Z<|MB Z<|zau (d:=28) Z (fun g9=>?_) (fun g9=>?_)
   ·refine TK (t := 28) Z (Vb (Dt g9)) <| zad (v := .int .u8 _) Z <| TK (t := 28) Z (Vb (Dt g9)) <| zbU Z Z <| Q <| zaB (u := .bool _) (Vb (Dt g9)) Z <| AB Z <| G <| zab Z (fun g10 => ?_) (fun g10 => ?_)
    ·refine SR <| AI Z <| G <| zai func79 Z (TP (v := .int .i64 _) Z) <| ⟨Vi ?_, V.pure⟩
     first | exact (zem O).symm | exact (zel O O).symm | exact (zek O).symm | exact (zen O O O).symm
    refine zag<|zah<|SR<|AI Z<|G<|zai func79 Z (TP (v:=.int .i64 _) Z)<|⟨Vi ?_,V.pure⟩
    first | exact (zem O).symm | exact (zel O O).symm | exact (zek O).symm | exact (zen O O O).symm
   refine OM (t:=28) Z (Vb (Df g9)) Z<|OM (t:=28) Z (Vb (Df g9)) Z<|Q<|zax (u:=.bool _) (Vb (Df g9)) Z<|AB Z<|G<|zal (Vb (Z:false = _))<|zag<|zah<|SR<|AI Z<|G<|zai func79 Z (TP (v:=.int .i64 _) Z)<|⟨Vi ?_,V.pure⟩
   first | exact (zem O).symm | exact (zel O O).symm | exact (zek O).symm | exact (zen O O O).symm
  refine OM (t:=19) Z (Vb (Df g6)) Z<|OM (t:=19) Z (Vb (Df g6)) Z<|Q<|zax (u:=.bool _) (Vb (Df g6)) Z<|AB Z<|G<|zaj [(0,.int .u8 _),(10,.bool _)] E2 fun f=>zal (Vb (Z:false = _))<|RG<|MC Z<|Q<|zam Z Z<|AB Z<|G<|zab Z (fun g11=>?_) (fun g11=>?_)
  ·refine SR <| AI Z <| G <| zai func79 Z (TP (v := .int .i64 _) Z) <| ⟨Vi ?_, V.pure⟩
   first | exact (zem O).symm | exact (zel O O).symm | exact (zek O).symm | exact (zen O O O).symm
  refine SR<|MC Z<|Q<|zbh Z Z<|MB Z<|zau (d:=28) Z (fun g12=>?_) (fun g12=>?_)
  ·refine TK (t := 28) Z (Vb (Dt g12)) <| zad (v := .int .u8 _) Z <| TK (t := 28) Z (Vb (Dt g12)) <| zbU Z Z <| Q <| zaB (u := .bool _) (Vb (Dt g12)) Z <| AB Z <| G <| zab Z (fun g13 => ?_) (fun g13 => ?_)
   ·refine SR <| AI Z <| G <| zai func79 Z (TP (v := .int .i64 _) Z) <| ⟨Vi ?_, V.pure⟩
    first | exact (zem O).symm | exact (zel O O).symm | exact (zek O).symm | exact (zen O O O).symm
   refine zag<|zah<|SR<|AI Z<|G<|zai func79 Z (TP (v:=.int .i64 _) Z)<|⟨Vi ?_,V.pure⟩
   first | exact (zem O).symm | exact (zel O O).symm | exact (zek O).symm | exact (zen O O O).symm
  refine OM (t:=28) Z (Vb (Df g12)) Z<|OM (t:=28) Z (Vb (Df g12)) Z<|Q<|zax (u:=.bool _) (Vb (Df g12)) Z<|AB Z<|G<|zal (Vb (Z:false = _))<|zag<|zah<|SR<|AI Z<|G<|zai func79 Z (TP (v:=.int .i64 _) Z)<|⟨Vi ?_,V.pure⟩
  first | exact (zem O).symm | exact (zel O O).symm | exact (zek O).symm | exact (zen O O O).symm
 refine OM (t:=13) Z (Vb (Df g4)) Z<|OM (t:=13) Z (Vb (Df g4)) Z<|Q<|zax (u:=.bool _) (Vb (Df g4)) Z<|AB Z<|G<|zal (Vb (Z:false = _))<|SR<|MC Z<|Q<|zbh Z Z<|MB Z<|zau (d:=19) Z (fun g14=>?_) (fun g14=>?_)
 ·refine TK (t := 19) Z (Vb (Dt g14)) <| zad (v := .int .u8 _) Z <| TK (t := 19) Z (Vb (Dt g14)) <| zbU Z Z <| Q <| zaB (u := .bool _) (Vb (Dt g14)) Z <| AB Z <| G <| zaj [(0, .int .u8 _), (10, .bool _)] E2 fun f => zab Z (fun g15 => ?_) (fun g15 => ?_)
  ·refine zag <| zas (Vb (Dt g15)) <| SR <| AI Z <| G <| zai func79 Z (TP (v := .int .i64 _) Z) <| ⟨Vi ?_, V.pure⟩
   first | exact (zem O).symm | exact (zel O O).symm | exact (zek O).symm | exact (zen O O O).symm
  refine RG<|MC Z<|Q<|zam Z Z<|AB Z<|G<|zab Z (fun g16=>?_) (fun g16=>?_)
  ·refine SR <| AI Z <| G <| zai func79 Z (TP (v := .int .i64 _) Z) <| ⟨Vi ?_, V.pure⟩
   first | exact (zem O).symm | exact (zel O O).symm | exact (zek O).symm | exact (zen O O O).symm
  refine SR<|MC Z<|Q<|zbh Z Z<|MB Z<|zau (d:=28) Z (fun g17=>?_) (fun g17=>?_)
  ·refine TK (t := 28) Z (Vb (Dt g17)) <| zad (v := .int .u8 _) Z <| TK (t := 28) Z (Vb (Dt g17)) <| zbU Z Z <| Q <| zaB (u := .bool _) (Vb (Dt g17)) Z <| AB Z <| G <| zab Z (fun g18 => ?_) (fun g18 => ?_)
   ·refine SR <| AI Z <| G <| zai func79 Z (TP (v := .int .i64 _) Z) <| ⟨Vi ?_, V.pure⟩
    first | exact (zem O).symm | exact (zel O O).symm | exact (zek O).symm | exact (zen O O O).symm
   refine zag<|zah<|SR<|AI Z<|G<|zai func79 Z (TP (v:=.int .i64 _) Z)<|⟨Vi ?_,V.pure⟩
   first | exact (zem O).symm | exact (zel O O).symm | exact (zek O).symm | exact (zen O O O).symm
  refine OM (t:=28) Z (Vb (Df g17)) Z<|OM (t:=28) Z (Vb (Df g17)) Z<|Q<|zax (u:=.bool _) (Vb (Df g17)) Z<|AB Z<|G<|zal (Vb (Z:false = _))<|zag<|zah<|SR<|AI Z<|G<|zai func79 Z (TP (v:=.int .i64 _) Z)<|⟨Vi ?_,V.pure⟩
  first | exact (zem O).symm | exact (zel O O).symm | exact (zek O).symm | exact (zen O O O).symm
 refine OM (t:=19) Z (Vb (Df g14)) Z<|OM (t:=19) Z (Vb (Df g14)) Z<|Q<|zax (u:=.bool _) (Vb (Df g14)) Z<|AB Z<|G<|zaj [(0,.int .u8 _),(10,.bool _)] E2 fun f=>zal (Vb (Z:false = _))<|RG<|MC Z<|Q<|zam Z Z<|AB Z<|G<|zab Z (fun g19=>?_) (fun g19=>?_)
 ·refine SR <| AI Z <| G <| zai func79 Z (TP (v := .int .i64 _) Z) <| ⟨Vi ?_, V.pure⟩
  first | exact (zem O).symm | exact (zel O O).symm | exact (zek O).symm | exact (zen O O O).symm
 refine SR<|MC Z<|Q<|zbh Z Z<|MB Z<|zau (d:=28) Z (fun g20=>?_) (fun g20=>?_)
 ·refine TK (t := 28) Z (Vb (Dt g20)) <| zad (v := .int .u8 _) Z <| TK (t := 28) Z (Vb (Dt g20)) <| zbU Z Z <| Q <| zaB (u := .bool _) (Vb (Dt g20)) Z <| AB Z <| G <| zab Z (fun g21 => ?_) (fun g21 => ?_)
  ·refine SR <| AI Z <| G <| zai func79 Z (TP (v := .int .i64 _) Z) <| ⟨Vi ?_, V.pure⟩
   first | exact (zem O).symm | exact (zel O O).symm | exact (zek O).symm | exact (zen O O O).symm
  refine zag<|zah<|SR<|AI Z<|G<|zai func79 Z (TP (v:=.int .i64 _) Z)<|⟨Vi ?_,V.pure⟩
  first | exact (zem O).symm | exact (zel O O).symm | exact (zek O).symm | exact (zen O O O).symm
 refine OM (t:=28) Z (Vb (Df g20)) Z<|OM (t:=28) Z (Vb (Df g20)) Z<|Q<|zax (u:=.bool _) (Vb (Df g20)) Z<|AB Z<|G<|zal (Vb (Z:false = _))<|zag<|zah<|SR<|AI Z<|G<|zai func79 Z (TP (v:=.int .i64 _) Z)<|⟨Vi ?_,V.pure⟩
 first | exact (zem O).symm | exact (zel O O).symm | exact (zek O).symm | exact (zen O O O).symm
end Go.SK
namespace Go.SK
open Go Go.Proofs Go.Proofs.Tryz
theorem ty9:TyF prog 9 .string 1 16 [str []]:=zbp Kr Kr
theorem zub:zaG prog 79:=⟨f79,_,func79,Kr,rfl⟩
open Go.RowKit
theorem zgv (s:Tx) (w:World) (hl:s.length ≤ 140737488355328):Ret prog 85 #[str s] w (fun v w'=>v = str (zcj s) ∧ St w NoM [] [] w'):=by
 refine zav (args:=[str s]) func85 Z Z Z ?_
 have V:=St.init w
 refine SR<|AS Z<|NSR<|AI Z<|G<|SQ<|zak<|zaY<|zaZ [(0,str _)] ⟨Z,trivial⟩ (fun (qq:Nat)=>[(3,.int .i64 (qq:Int))]) (fun (qq:Nat)=>[]) (fun (qq:Nat)=>qq ≤ s.length ∧ (zcj s).length = qq + (zcj (s.drop qq)).length) (fun (qq:Nat)=>s.length - qq) (0) V ⟨Nat.zero_le _,(Nat.zero_add _).symm⟩ ⟨Z,trivial⟩ ?_
 intro i f w V hJ ih1
 replace V:St _ _ ([] ++ []) _ _:=V
 replace hJ:i ≤ s.length ∧ (zcj s).length = i + (zcj (s.drop i)).length:=hJ
 refine za6 (sl:=[(3,.int .i64 (i:Int))]) ⟨Z,trivial⟩ ?_
 have hidx:zeV (s.getD ((i:Int).toNat) 0) = zeV (s.getD i 0):=rfl
 refine SQ<|SR<|MI Z<|MS Z<|Q<|zbb (rest:=[]) ty9 Z<|Q<|zaN Z Z<|MB Z<|zau (d:=8) Z (fun g2=>?_) (fun g2=>?_)
 ·refine TK (t := 8) Z (Vb (Dt g2)) <| zad (v := str _) Z <| TK (t := 8) Z (Vb (Dt g2)) <| zad (v := .int .i64 _) Z <| TK (t := 8) Z (Vb (Dt g2)) <| za5 ty9 Z Z O O <| TK (t := 8) Z (Vb (Dt g2)) (zao (v1 := .int .u8 _) zub Z Z ((zeg _ _).mono fun v w hp => ?_))
  obtain ⟨rfl,hp⟩:=hp
  replace V:=V.keepc hp
  refine TK (t:=8) Z (Vb (Dt g2))<|zbh Z Z<|Q<|zaB (u:=.bool _) (Vb (Dt g2)) Z<|G<|zab Z (fun g3=>?_) (fun g3=>?_)
  ·refine zag <| zak <| RG <| MI Z <| Q <| zaA Z Z Z zbt <| AI Z <| G <| zah <| zaD ?_
   have hs1:=zlK (s:=s) (i:=i) O ((zqo (s.getD i 0)).1 O)
   exact ih1 (i + 1) _ w O V (⟨by omega,by omega⟩) ⟨Z,trivial⟩ ⟨(Vi O),trivial⟩
  refine zaK (id:=0) Z<|SR<|MS Z<|MI Z<|Q<|zdw ty9 Z Z O O<|AS Z<|G<|zai func85 Z (TP (v:=str _) Z) ?_
  have hz:(zcj (s.drop i)).length = 0:=zvP O (fun hr=>by have:=(zqo (s.getD i 0)).2 hr; omega)
  refine ⟨congrArg str ?_,V.pure⟩
  exact zjq s O
 refine OM (t:=8) Z (Vb (Df g2)) Z<|OM (t:=8) Z (Vb (Df g2)) Z<|OM (t:=8) Z (Vb (Df g2)) Z<|OM (t:=8) Z (Vb (Df g2)) Z<|OM (t:=8) Z (Vb (Df g2)) Z<|Q<|zax (u:=.bool _) (Vb (Df g2)) Z<|G<|zal (Vb (Z:false = _))<|zaK (id:=0) Z<|SR<|MS Z<|MI Z<|Q<|zdw ty9 Z Z O O<|AS Z ?_
 refine G<|zai func85 Z (TP (v:=str _) Z) ?_
 have hz:(zcj (s.drop i)).length = 0:=zx0 O
 refine ⟨congrArg str ?_,V.pure⟩
 exact zjq s O
end Go.SK
namespace Go.SK
open Go Go.Proofs Go.Proofs.Tryz
theorem za9:TyF prog 22 (.int .u32) 1 4 [.int .u32 0]:=zbp Kr Kr
theorem zaw:prog.follows .mixedOrders = true:=by kernel_rfl
open Go.RowKit Go.Shelf
def LxG:Res where
 foot:=fun b=>b = 1 ∨ b = 2 ∨ b = 3
 holds:=fun w=>(∃ tp p T fz,w.heap[1]? = some (.cells #[.iface tp p] T fz)) ∧ (∃ tp p T fz,w.heap[2]? = some (.cells #[.iface tp p] T fz)) ∧ ∃ T fz,w.heap[3]? = some (.cells (Lib.pow10Tab.map fun z=>Value.int .u64 z).toArray T fz)
 stable:=fun w w' h hh=>by rw [h _ (.inl rfl),h _ (.inr (.inl rfl)),h _ (.inr (.inr rfl))]; exact hh
 inb:=fun w hh b hb=>by
  obtain ⟨⟨_,_,_,_,h0⟩,⟨_,_,_,_,h1⟩,⟨_,_,h3⟩⟩:=hh
  rcases hb with rfl | rfl | rfl
  ·exact (Array.getElem?_eq_some_iff.1 h0).1
  ·exact (Array.getElem?_eq_some_iff.1 h1).1
  ·exact (Array.getElem?_eq_some_iff.1 h3).1
theorem zsV {P:Program} {n:String} {k:Nat} {w:World} {cs:Array Value} {T:TypeId} {fz:Nat × Nat} (hn:P.globalNamed n = some k) (h:w.heap[k]? = some (.cells cs T fz)):w.var? P n = some cs:=by
 simp [World.var?,hn,h]
theorem zyF {w:World} {k:Nat} {v:Value} {T:TypeId} {fz:Nat × Nat} (h:w.heap[k]? = some (.cells #[v] T fz)):w.cell? ⟨k,0,none⟩ = some v:=by
 simp [World.cell?,h]
theorem zyf (s:Tx) (w:World) (hG:LxG.holds w) (hl:s.length ≤ 140737488355328):Ret prog 86 #[str s,.int .i64 10,.int .i64 32] w (fun v w'=>(((puO s).isSome = true ∧ v = .tuple #[.int .u64 (puV s:Int),.nilIface]) ∨ ((puO s).isSome = false ∧ ∃ N,v = .tuple #[.int .u64 (puV s:Int),.iface 252 (.pointer (some ⟨N,0,none⟩))])) ∧ St w NoM [] [] w'):=by
 obtain ⟨⟨tp0,p0,_,_,h0⟩,⟨tp1,p1,_,_,h1⟩,_⟩:=hG
 unfold puO puV
 cases h:Lib.parseUintB 32 s
 ·rename_i u
  refine Calls.mono (Any.strconv_ParseUint_10_at32_ok zgU ⟨s.toArray⟩ (by rw [zga]; omega) u h w) ?_
  rintro e w' ⟨he,hw⟩
  refine ⟨_,he,.inl ⟨Z,Z⟩,?_⟩
  rcases hw with rfl | rfl
  ·exact St.init _
  ·exact St.ofBelow (Lib.bytesWorld_below _ _ _)
 ·refine Calls.mono (Any.strconv_ParseUint_10_at32_syntax_var zgU ⟨s.toArray⟩ (by rw [zga]; omega) h tp0 p0 w (zsV (by kernel_rfl) h0)) ?_
  rintro e w' ⟨N,he,_,_,hw⟩
  exact ⟨_,he,.inr ⟨Z,N,Z⟩,St.ofBelow hw⟩
 ·refine Calls.mono (Any.strconv_ParseUint_10_at32_range_var zgU ⟨s.toArray⟩ (by rw [zga]; omega) h tp1 p1 w (zsV (by kernel_rfl) h1)) ?_
  rintro e w' ⟨N,he,_,_,hw⟩
  exact ⟨_,he,.inr ⟨Z,N,Z⟩,St.ofBelow hw⟩
theorem lx_CP (s p:Tx) (w:World):Ret prog 84 #[str s,str p] w (fun v w'=>v = .tuple #[str (Lib.trimPrefix s p),.bool (Lib.hasPrefix s p)] ∧ St w NoM [] [] w') :=
 zfs (Any.strings_CutPrefix zrL ⟨s.toArray⟩ ⟨p.toArray⟩ w)
theorem znh (s p:Tx) (w:World):Ret prog 84 #[str s,str p] w (fun v w'=>(s.take p.length = p ∧ v = .tuple #[str (s.drop p.length),.bool true] ∧ St w NoM [] [] w') ∨ (s.take p.length ≠ p ∧ v = .tuple #[str s,.bool false] ∧ St w NoM [] [] w')) :=
 (lx_CP s p w).mono fun v w' ⟨hv, V⟩ => by
  cases h:Lib.hasPrefix s p
  ·exact .inr ⟨(zs1 h).2,by rw [hv,(zs1 h).1,h],V⟩
  ·exact .inl ⟨(zpU h).2,by rw [hv,(zpU h).1,h],V⟩
theorem lx_IB (s:Tx) (c:Int) (w:World):Ret prog 87 #[str s,.int .u8 c] w (fun v w'=>v = .int .i64 (Lib.indexByte s c.toNat.toUInt8) ∧ St w NoM [] [] w') :=
 zfs (Any.strings_IndexByte zrK ⟨s.toArray⟩ c w)
theorem lx_IX (s:Tx) (c:UInt8) (w:World):Ret prog 185 #[str s,str [c]] w (fun v w'=>v = .int .i64 (Lib.indexByte s c) ∧ St w NoM [] [] w') :=
 zfs (Any.stringslite_Index_one zrJ ⟨s.toArray⟩ c w)
theorem zv4 (i:Nat) (h:i < 100) (w:World):Ret prog 195 #[.int .i64 (i:Int)] w (fun v w'=>v = str (Lib.decDigits i) ∧ St w NoM [] [] w') :=
 zfs (Any.internal_strconv_small zrI i h w)
theorem zng (u:Nat) (w:World) (hG:LxG.holds w) (h1:1 ≤ u) (h2:u < 18446744073709551616):Ret prog 196 #[.int .u64 (u:Int)] w (fun v w'=>v = .int .i64 (Lib.nDigits u:Int) ∧ St w NoM [] [] w'):=by
 obtain ⟨_,_,_,_,h3⟩:=hG
 exact zfs (Any.internal_strconv_numDigits zoY u h1 h2 w (zsV Kr h3))
theorem zcQ (c:Int) (w:World):Ret prog 187 #[.int .u8 c] w (fun v w'=>v = .int .u8 (bits .or .u8 c 32) ∧ St w NoM [] [] w') :=
 zfs (Any.internal_strconv_lower zrG c w)
theorem lx_TE (f0 s:Tx) (w:World) (hG:LxG.holds w) (hl:s.length ≤ 140737488355328):Ret prog 145 #[str f0,str s,.int .i64 16,.int .i64 32,.iface 251 (.int .i64 2)] w (fun v w'=>(∃ N,v = .iface 252 (.pointer (some ⟨N,0,none⟩))) ∧ St w NoM [] [] w'):=by
 obtain ⟨⟨tp0,p0,_,_,h0⟩,_,_⟩:=hG
 refine Calls.mono (Any.strconv_toError_syntax zoZ ⟨f0.toArray⟩ ⟨s.toArray⟩ 16 32 (.iface tp0 p0) w (by rw [zga]; omega) (zyF h0) (.inr ⟨_,_,rfl⟩)) ?_
 rintro e w' ⟨N,he,_,_,hw⟩
 exact ⟨_,he,⟨N,Z⟩,St.ofBelow hw⟩
theorem zo0 (ao:Option Addr) (cp:Nat) (sep:Tx) (w:World):Ret prog 116 #[.slice ao 0 cp,str sep] w (fun v w'=>v = str [] ∧ St w NoM [] [] w') :=
 zfs (Any.strings_Join_none zk0 zjA ao cp ⟨sep.toArray⟩ w)
theorem zyg (l:List Tx) (ao:Option Addr) (cp:Nat) (sep:Tx) (w:World) (hR:(Res.rs ao l.length 1 (l.flatMap fun s=>[str s])).holds w) (hcp:l.length ≤ cp) (hn:l.length ≤ 140737488355328) (hl:(Lib.join l sep).length ≤ 140737488355328):Ret prog 116 #[.slice ao l.length cp,str sep] w (fun v w'=>v = str (Lib.join l sep) ∧ St w NoM [] [] w'):=by
 rcases Nat.eq_zero_or_pos l.length with h0 | h0
 ·obtain rfl := List.length_eq_zero_iff.1 h0
  exact zo0 ao cp sep w
 ·obtain ⟨b, o, rfl⟩ := Res.rs_some hR h0
  have hm:(l.map fun s=>ByteArray.mk s.toArray).map (·.data.toList) = l:=by
   rw [List.map_map]; exact (List.map_congr_left (fun s _=>rfl)).trans (List.map_id l)
  have hlen:(l.map fun s=>ByteArray.mk s.toArray).length = l.length:=List.length_map _
  have:=Any.strings_Join zk0 zjA b o cp (l.map fun s=>⟨s.toArray⟩) ⟨sep.toArray⟩ w (fun j x hx=>?_) (hR |> fun h=>(Res.rs (some ⟨b,o,none⟩) l.length 1 (l.flatMap fun s=>[str s])).inb w h b ⟨by rw [zdV (es:=1) (fun _=>rfl)]; omega,o,rfl⟩) (by rw [hlen]; exact hn) (by rw [hlen]; exact hcp) (by rw [hm]; exact hl)
  ·rw [hm, hlen] at this
   exact zpn this
  ·rw [List.getElem?_map, Option.map_eq_some_iff] at hx
   obtain ⟨s,hs,rfl⟩:=hx
   refine Res.rs_all hR j _ ?_
   have:∀ l:List Tx,(l.flatMap fun s=>[str s]) = l.map str:=fun l=>by
    induction l with
    | nil=>rfl
    | cons a r ih=>rw [List.flatMap_cons,ih]; rfl
   rw [this,List.getElem?_map,hs]; rfl
end Go.SK
namespace Go.SK
open Go Go.Proofs Go.RowKit Go.ChangeShapes Go.WideShapes Go.ChangeAt Go.Proofs.Tryz
open Go.Proofs.YtglmmdpeenckbaaGreatDoor
theorem zoA {P:Program} {n:String} {k:Nat} {w:World} {cs:Array Value} (hn:P.globalNamed n = some k) (h:w.var? P n = some cs):∃ T fz,w.heap[k]? = some (.cells cs T fz):=by
 unfold World.var? at h
 rw [hn,Option.bind_some] at h
 split at h
 ·cases h; rename_i T fz he; exact ⟨_,_,he⟩
 ·cases h
theorem lxG_of {W:World} (h:laidMet prog Rows.asmLinesRow.laid W):LxG.holds W:=by
 have h3:=Lib.tabIs_of_head (k:=.u64) (zs:=Lib.pow10Tab) (g:=3) (t:=278) (e:=149) (n:=20) Kr Kr underlying278 underlying149 Kr Kr (show laidMet prog ((_,Lib.tabData .u64 Lib.pow10Tab) :: _) W from h.tail.tail)
 obtain ⟨a1, s1, hv1, _⟩ := laid_sentinel (g := 2) (ti := 151) (tp := 288) (te := 290) (ts := 9) h.tail.tail.tail Kr Kr underlying151 (fun u hu => typeName_ptr_named (nm := "errors.errorString") Kr Kr De u (hu.trans (congrArg some De))) underlying288 underlying290 rfl rfl underlying9 Kr Kr
 obtain ⟨a0, s0, hv0, _⟩ := laid_sentinel (g := 1) (ti := 151) (tp := 288) (te := 290) (ts := 9) h.tail.tail.tail.tail Kr Kr underlying151 (fun u hu => typeName_ptr_named (nm := "errors.errorString") Kr Kr De u (hu.trans (congrArg some De))) underlying288 underlying290 rfl rfl underlying9 Kr Kr
 obtain ⟨T1,f1,hh1⟩:=zoA Kr hv1
 obtain ⟨T0,f0,hh0⟩:=zoA Kr hv0
 obtain ⟨T3,f3,hh3⟩:=zoA Kr h3
 exact ⟨⟨_,_,_,_,hh0⟩,⟨_,_,_,_,hh1⟩,⟨_,_,hh3⟩⟩
theorem lx_door (os:Os) (args:Array Value):laidMet prog Rows.asmLinesRow.laid ((World.doorLaid prog 400 os).forCall (fun _ _=>0) ⟨#[],args,[]⟩).memory :=
 laidMet_of_run' 8 Kr Kr
theorem lx_own:ownKnob prog.godebug = none:=by kernel_rfl
theorem lx_out:laidOutB prog = true:=by kernel_rfl
end Go.SK
namespace Go.SK
open Go.RowKit Go.ChangeShapes Go.WideShapes Go.ChangeAt
section
variable {H:Type} {enc:TypeId × Value → H} {P:Program} {w:World} {base:Nat} {spare:Nat → Bool} {held:Bool} {M I A:TypeId}
theorem wf_u8 {n:Int} (h:(Lit.int .u8 n).wf = true):0 ≤ n ∧ n ≤ 255:=by
  simpa [Lit.wf,IntKind.min,IntKind.max,IntKind.signed,IntKind.bits] using h
end
end Go.SK
namespace Go.SK
theorem zgO {fm:FormL} {b:Int} {k:Nat} {a:ArgP} {l:List ArgP} (h:zby fm b k (a :: l) = 0):zbv (zaJ fm k) a b = 0 ∧ zby fm b (k + 1) l = 0:=by
  rw [zby] at h
  split at h
  · rename_i h1; exact absurd h h1
  · rename_i h1; exact ⟨Nn h1,h⟩
theorem ziU {must:Bool} {n b e:Int} (he:e ≠ 0) (h:idH must n b e = 0):(must = true → n ≠ 0 ∧ n < b) ∧ (must = false → n = 0):=by
  unfold idH at h
  split at h
  · exact absurd h he
  · rename_i h1
    have h1:=Nn h1
    split at h
    · cases h
    · rename_i h2
      refine ⟨fun hm=>?_,fun hm=>?_⟩
      · subst hm
        have hn:n ≠ 0:=of_decide_eq_true h1.symm
        exact ⟨hn,by have:¬ n ≥ b:=fun hx=>h2 ⟨rfl,hx⟩; omega⟩
      · subst hm
        exact Nn (of_decide_eq_false h1.symm)
section
variable {t:TokL}
theorem zsT (h:t.kind = 1) (h0:t.text ≠ []) (h1:zgI (t.text.getD 0 0) = true) (h2:zcj t.text = t.text):wrT t = some t.text:=by
  have hl:0 < t.text.length:=List.length_pos_iff.2 h0
  unfold wrT; rw [if_pos h,if_pos ⟨hl,h1,h2⟩]
theorem zsU (h:t.kind = 1) (hq:¬ (t.text ≠ [] ∧ zgI (t.text.getD 0 0) = true ∧ zcj t.text = t.text)):wrT t = none:=by
  unfold wrT; rw [if_pos h,if_neg (fun q=>hq ⟨List.length_pos_iff.1 q.1,q.2⟩)]
theorem zsS (h:t.kind = 2) (h1:(zba t.text).isSome = true):wrT t = some (37 :: t.text):=by
  unfold wrT; rw [if_neg (by omega),if_pos h,if_pos h1]
theorem wr2_no (h:t.kind = 2) (h1:¬ (zba t.text).isSome = true):wrT t = none:=by
  unfold wrT; rw [if_neg (by omega),if_pos h,if_neg h1]
theorem zsR (h:t.kind = 3) (h1:(za3 t.text).2 = 0):wrT t = some t.text:=by
  unfold wrT; rw [if_neg (by omega),if_neg (by omega),if_pos h,if_pos h1]
theorem wr3_no (h:t.kind = 3) (h1:¬ (za3 t.text).2 = 0):wrT t = none:=by
  unfold wrT; rw [if_neg (by omega),if_neg (by omega),if_pos h,if_neg h1]
theorem zpT (h:t.kind = 4):wrT t = some (zd7 t.text):=by
  unfold wrT; rw [if_neg (by omega),if_neg (by omega),if_neg (by omega),if_pos h]
theorem zkK (h:t.kind = 5) (h1:t.text = [61]):wrT t = some [61]:=by
  unfold wrT; rw [if_neg (by omega),if_neg (by omega),if_neg (by omega),if_neg (by omega),if_pos h,if_pos h1]
theorem wr5_no (h:t.kind = 5) (h1:¬ t.text = [61]):wrT t = none:=by
  unfold wrT; rw [if_neg (by omega),if_neg (by omega),if_neg (by omega),if_neg (by omega),if_pos h,if_neg h1]
theorem wr_no (h1:¬ t.kind = 1) (h2:¬ t.kind = 2) (h3:¬ t.kind = 3) (h4:¬ t.kind = 4) (h5:¬ t.kind = 5):wrT t = none:=by
  unfold wrT; rw [if_neg h1,if_neg h2,if_neg h3,if_neg h4,if_neg h5]
theorem zxa {x:Tx} (h:wrT t = some x):x.length + 1 ≤ 4 * t.text.length + 3:=by
  unfold wrT at h
  split at h
  · split at h
    · cases h; omega
    · cases h
  split at h
  · split at h
    · cases h; simp only [List.length_cons]; omega
    · cases h
  split at h
  · split at h
    · cases h; omega
    · cases h
  split at h
  · cases h; have:=zm3 t.text; omega
  split at h
  · split at h
    · cases h; simp only [List.length_cons,List.length_nil]; omega
    · cases h
  · cases h
end
def wrL:List TokL → Option (List Tx)
  | []=>some []
  | t :: r=>(wrT t).bind fun a=>(wrL r).map fun b=>a :: b
def wsz:List TokL → Nat
  | []=>0
  | t :: r=>4 * t.text.length + 3 + wsz r
def osz:List Tx → Nat
  | []=>0
  | x :: r=>x.length + 1 + osz r
theorem zx9 (a b:List Tx):osz (a ++ b) = osz a + osz b:=by
  induction a with
  | nil=>simp [osz]
  | cons x r ih=>rw [List.cons_append,osz,osz,ih]; omega
theorem join_cons (x y:Tx) (r:List Tx):Lib.join (x :: y :: r) [32] = x ++ 32 :: Lib.join (y :: r) [32]:=by
  unfold Lib.join; rw [List.intercalate_cons_cons]; simp
theorem zfR (x:Tx):Lib.join [x] [32] = x:=Lib.join_one x [32]
theorem ztP:Lib.join ([]:List Tx) [32] = []:=rfl
theorem zqq:∀ l:List Tx,(Lib.join l [32]).length ≤ osz l
  | []=>Nat.zero_le _
  | [x]=>by rw [zfR,osz,osz]; omega
  | x :: y :: r => by
    have:=zqq (y :: r)
    rw [join_cons,osz,List.length_append,List.length_cons]; omega
theorem zpS:∀ l:List TokL,wrR l = (wrL l).map fun x=>x.flatMap fun a=>32 :: a
  | []=>rfl
  | t :: r => by
    rw [wrR,wrL]
    cases wrT t with
    | none=>rfl
    | some a =>
      simp only [Option.bind_some]
      rw [zpS r]
      cases wrL r with
      | none=>rfl
      | some b=>simp
theorem zlB (l:List TokL):wrF l = (wrL l).map fun x=>Lib.join x [32]:=by
  cases l with
  | nil=>rfl
  | cons t r =>
    rw [wrF,wrL,zpS]
    cases wrT t with
    | none=>rfl
    | some a =>
      simp only [Option.bind_some]
      cases wrL r with
      | none=>rfl
      | some b =>
        simp only [Option.map_some]; congr 1
        have:∀ (b:List Tx) (a:Tx),a ++ (b.flatMap fun x=>32 :: x) = Lib.join (a :: b) [32]:=fun b=>by
          induction b with
          | nil=>intro a; rw [zfR]; simp
          | cons c q ih=>intro a; rw [join_cons,← ih c]; simp
        exact this b a
def wrI (l:List TokL) (i:Nat) (o:List Tx):Prop:=i ≤ l.length ∧ o.length = i ∧ osz o + wsz (l.drop i) ≤ wsz l ∧ wrL l = (wrL (l.drop i)).map (o ++ ·)
theorem zsQ (l:List TokL):wrI l 0 []:=by
  refine ⟨Nat.zero_le _,rfl,by simp [osz],?_⟩
  rw [List.drop_zero]; cases wrL l <;> simp
theorem zhE {l:List TokL} {i:Nat} (h:i < l.length):l.drop i = l.getD i zaM :: l.drop (i + 1):=by
  rw [List.drop_eq_getElem_cons h]; simp [List.getD,h]
theorem zlz {l:List TokL} {i:Nat} (h:i < l.length):4 * (l.getD i zaM).text.length + 3 + wsz (l.drop (i + 1)) = wsz (l.drop i):=by
  rw [zhE h,wsz]
theorem zvk {l:List TokL} {i:Nat} {o:List Tx} (hI:wrI l i o) (h:i < l.length):4 * (l.getD i zaM).text.length + 3 + osz o ≤ wsz l:=by
  have:=zlz h; have:=hI.2.2.1; omega
theorem zvp {l:List TokL} {i:Nat} {o:List Tx} {x:Tx} (hI:wrI l i o) (h:i < l.length) (hx:wrT (l.getD i zaM) = some x):wrI l (i + 1) (o ++ [x]):=by
  refine ⟨h,by rw [List.length_append,List.length_singleton,hI.2.1],?_,?_⟩
  · have h1 := zlz h; have h2 := hI.2.2.1; have h3 := zxa hx
    rw [zx9,osz,osz]; omega
  · rw [hI.2.2.2, zhE h, wrL, hx]
    cases wrL (l.drop (i + 1)) with
    | none=>rfl
    | some b=>simp
theorem wrI_no {l:List TokL} {i:Nat} {o:List Tx} (hI:wrI l i o) (h:i < l.length) (hx:wrT (l.getD i zaM) = none):wrF l = none:=by
  rw [zlB,hI.2.2.2,zhE h,wrL,hx]; rfl
theorem zxO {l:List TokL} {i:Nat} {o:List Tx} (hI:wrI l i o) (h:l.length ≤ i):wrF l = some (Lib.join o [32]):=by
  rw [zlB,hI.2.2.2,List.drop_eq_nil_of_le h,wrL]; simp
abbrev strC (s:Tx):List Value:=[str s]
def wrS (l:List TokL):Tx:=(wrF l).getD []
def wrE (l:List TokL):Int:=if (wrF l).isSome = true then 0 else 2
theorem zd3 {l:List TokL} {x:Tx} (h:wrF l = some x):wrS l = x ∧ wrE l = 0:=by unfold wrS wrE; rw [h]; exact ⟨rfl,rfl⟩
theorem zsO {l:List TokL} (h:wrF l = none):wrS l = [] ∧ wrE l = 2:=by unfold wrS wrE; rw [h]; exact ⟨rfl,rfl⟩
theorem ziY {a b:Tx} {i:Nat} (h:i < a.length):(a ++ b).getD i 0 = a.getD i 0:=by
  simp [List.getD,List.getElem?_append_left h]
theorem zlN {s y:Tx} (hy:y.length = 0 ∨ ¬ zkm (y.getD 0 0) = true):zcj (s ++ y) = zcj s:=by
  unfold zcj
  induction s with
  | nil =>
    cases y with
    | nil=>rfl
    | cons c r =>
      have:¬ zkm c = true:=hy.resolve_left (by simp)
      rw [List.nil_append,List.takeWhile_cons,if_neg this]; rfl
  | cons c r ih =>
    rw [List.cons_append,List.takeWhile_cons,List.takeWhile_cons,ih]
theorem zhi {s:Tx} (h:s.all zkm = true):zcj s = s:=by
  unfold zcj
  induction s with
  | nil=>rfl
  | cons c r ih =>
    rw [List.all_cons,Bool.and_eq_true] at h
    rw [List.takeWhile_cons,if_pos h.1,ih h.2]
theorem zqH:∀ (s:Tx) (a n:Nat),zcD s a = some n → s.all zej = true
  | [],a,n,_=>rfl
  | c :: r, a, n, h => by
    rw [zcD] at h; split at h
    · rename_i hc; rw [List.all_cons,hc,zqH r _ n h]; rfl
    · cases h
theorem zgZ {s:Tx} (h:s.all zej = true):s.all zkm = true:=by
  rw [List.all_eq_true] at h ⊢; intro c hc; exact run_d (h c hc)
theorem zhp {s:Tx} {n:Nat} (h:zba s = some n):0 < s.length ∧ s.all zej = true:=by
  by_cases hb:zpi s
  · have:=(zoU hb).2; rw [h] at this; cases this
  · cases hd : zcD s 0 with
    | none=>have:=(zlS hb hd).2; rw [h] at this; cases this
    | some m=>exact ⟨by unfold zpi at hb; omega,zqH s 0 m hd⟩
theorem zwY {p:UInt8 → Bool} {s:Tx} (n:Nat) (h:s.all p = true):(s.drop n).all p = true:=by
  rw [List.all_eq_true] at h ⊢; intro c hc; exact h c (List.mem_of_mem_drop hc)
theorem zpl {p:UInt8 → Bool} {s:Tx} {i:Nat} (h:s.all p = true) (hi:i < s.length):p (s.getD i 0) = true:=by
  rw [List.all_eq_true] at h
  have:s.getD i 0 = s[i]:=by simp [List.getD,hi]
  rw [this]; exact h _ (List.getElem_mem hi)
theorem znd {s:Tx} (h:(za3 s).2 = 0):0 < s.length ∧ (zej (s.getD 0 0) = true ∨ (s.getD 0 0).toNat = 45) ∧ zcj (s.drop 1) = s.drop 1:=by
  cases hp:zba s with
  | some n =>
    obtain ⟨h0,ha⟩:=zhp hp
    exact ⟨h0,.inl (zpl ha h0),zhi (zgZ (zwY 1 ha))⟩
  | none =>
    by_cases hm:1 < s.length ∧ (s.getD 0 0).toNat = 45
    · cases hq : zba (s.drop 1) with
      | none=>rw [zhs hp hm (fun n hn=>by rw [hq] at hn; cases hn)] at h; cases h
      | some n=>exact ⟨by omega,.inr hm.2,zhi (zgZ (zhp hq).2)⟩
    · by_cases hb : s.length < 3 ∨ 10 < s.length ∨ (s.getD 0 0).toNat ≠ 48 ∨ (s.getD 1 0).toNat ≠ 120
      · rw [ziP hp hm hb] at h; cases h
      · cases hx : zcX (s.drop 2) 0 with
        | none=>rw [zgT hp hm hb hx] at h; cases h
        | some n =>
          refine ⟨by omega,.inl (Dt O),?_⟩
          have h1:=(ziV _ _ _ hx).1
          rw [zmd (show 1 < s.length by omega)]
          have hr:zkm (s.getD 1 0) = true:=by
            unfold zkm zgI; rw [Bool.or_eq_true,decide_eq_true_eq]; omega
          unfold zcj at h1 ⊢
          rw [List.takeWhile_cons,if_pos hr,h1]
theorem zqs {n:Nat} (h:n < 16):zeG (zl4 n) = true ∧ zfE (zl4 n) = n:=by
  have:∀ n < 16,zeG (zl4 n) = true ∧ zfE (zl4 n) = n:=by decide
  exact this n h
theorem zvZ (c:UInt8) (z:Tx):zcv (ziO c ++ z) = some (c,(ziO c).length) ∧ ((ziO c ++ z).getD 0 0).toNat ≠ 34:=by
  have hc:=c.toNat_lt
  by_cases h1:c.toNat < 32 ∨ 126 < c.toNat
  · rw [ziM h1]
    refine ⟨?_,by show (92:UInt8).toNat ≠ 34; decide⟩
    have hh1:=zqs (n:=c.toNat / 16) O
    have hh2:=zqs (n:=c.toNat % 16) O
    have:=zm6 (s:=[92,120,zl4 (c.toNat / 16),zl4 (c.toNat % 16)] ++ z) (a:=0) (by simp) rfl (by simp) rfl hh1.1 hh2.1
    rw [List.drop_zero] at this
    rw [this]
    have e:UInt8.ofNat (16 * zfE (zl4 (c.toNat / 16)) + zfE (zl4 (c.toNat % 16))) = c:=by
      rw [hh1.2,hh2.2]; apply UInt8.toNat_inj.1; rw [UInt8.toNat_ofNat']; omega
    exact congrArg some (Prod.ext e rfl)
  · by_cases h2 : c.toNat = 34 ∨ c.toNat = 92
    · rw [ziN h1 h2]
      refine ⟨?_,by show (92:UInt8).toNat ≠ 34; decide⟩
      have:=zqd (s:=[92,c] ++ z) (a:=0) (by simp) rfl (by simp) h2
      rw [List.drop_zero] at this
      rw [this]; rfl
    · rw [zlR h1 h2]
      refine ⟨?_,by show c.toNat ≠ 34; omega⟩
      have:=zqf (s:=[c] ++ z) (a:=0) (by simp) (by show ¬ (c.toNat < 32 ∨ 126 < c.toNat ∨ c.toNat = 34); omega) (by show c.toNat ≠ 92; omega)
      rw [List.drop_zero] at this
      rw [this]; rfl
theorem zp9 (y:Tx):∀ (s:Tx) (n:Nat),(s.flatMap ziO ++ 34 :: y).length ≤ n → quoN n (s.flatMap ziO ++ 34 :: y) = some (s,(s.flatMap ziO).length + 1)
  | [], n, h => by
    cases n with
    | zero=>simp at h
    | succ n=>rw [List.flatMap_nil,List.nil_append,quoN,if_neg (by simp),if_pos (show ((34 :: y).getD 0 0).toNat = 34 from rfl)]; rfl
  | c :: r, n, h => by
    rw [List.flatMap_cons,List.append_assoc] at h ⊢
    obtain ⟨h1,h2⟩:=zvZ c (r.flatMap ziO ++ 34 :: y)
    have hl:=(zqa c).1
    cases n with
    | zero=>rw [List.length_append] at h; omega
    | succ n =>
      rw [quoN,if_neg (by rw [List.length_append]; omega),if_neg h2,h1]
      dsimp only
      rw [List.drop_left,zp9 y r n (by rw [List.length_append] at h; omega)]
      simp only [Option.map_some,List.length_append]
      congr 2
theorem zsN {t:TokL} {x y:Tx} (h:wrT t = some x) (hy:y.length = 0 ∨ (y.getD 0 0).toNat = 32):zfF (x ++ y) = .ok (t.kind,t.text,x.length) ∧ 0 < x.length ∧ ¬ zb1 (x.getD 0 0) = true ∧ ¬ (x.getD 0 0).toNat = 59:=by
  have hyr:y.length = 0 ∨ ¬ zkm (y.getD 0 0) = true:=hy.imp id fun h32=>by
    unfold zkm zgI zej; rw [Bool.or_eq_true,decide_eq_true_eq,decide_eq_true_eq]; omega
  unfold wrT at h
  split at h
  · rename_i hk
    split at h
    · rename_i hq; cases h
      have e0:(t.text ++ y).getD 0 0 = t.text.getD 0 0:=ziY hq.1
      have:=ziG (s:=t.text ++ y) (a:=0) (by rw [e0]; exact hq.2.1)
      rw [List.drop_zero,zlN hyr,hq.2.2] at this
      exact ⟨by rw [this,hk],hq.1,f_no (znl hq.2.1),znk hq.2.1 (by omega)⟩
    · cases h
  split at h
  · rename_i hk
    split at h
    · rename_i hq; cases h
      obtain ⟨n,hn⟩:=zhu hq
      have hr:zcj (((37 :: t.text) ++ y).drop (0 + 1)) = t.text:=by
        show zcj (t.text ++ y) = t.text
        rw [zlN hyr,zhi (zgZ (zhp hn).2)]
      have:=zpV (s:=(37 :: t.text) ++ y) (a:=0) rfl (by rw [hr]; exact hq)
      rw [List.drop_zero,hr] at this
      exact ⟨by rw [this,hk]; rfl,by simp,by show ¬ zb1 37 = true; decide,by show ¬ (37:UInt8).toNat = 59; decide⟩
    · cases h
  split at h
  · rename_i hk
    split at h
    · rename_i hq; cases h
      obtain ⟨h0,h1,h2⟩:=znd hq
      have e0:(t.text ++ y).getD 0 0 = t.text.getD 0 0:=ziY h0
      have e1:(t.text ++ y).drop (0 + 1) = t.text.drop 1 ++ y:=by
        show (t.text ++ y).drop 1 = _
        rw [List.drop_append_of_le_length (by omega)]
      have e2:((t.text ++ y).drop 0).take (1 + (zcj ((t.text ++ y).drop (0 + 1))).length) = t.text:=by
        rw [e1,zlN hyr,h2,List.drop_zero,List.length_drop,show 1 + (t.text.length - 1) = t.text.length by omega,List.take_left]
      have:=zjf (s:=t.text ++ y) (a:=0) (by rw [e0]; exact h1) e2 hq
      rw [List.drop_zero] at this
      refine ⟨by rw [this,hk],h0,?_,?_⟩
      · rcases h1 with h1 | h1
        · exact f_no (znQ h1)
        · unfold zb1; simp only [decide_eq_true_eq]; omega
      · rcases h1 with h1 | h1
        · have:=zlc h1; omega
        · omega
    · cases h
  split at h
  · rename_i hk; cases h
    have hl:(zd7 t.text).length = (t.text.flatMap ziO).length + 2:=by unfold zd7; simp
    have hq:zgF (zd7 t.text ++ y) (0 + 1) = some (t.text,(t.text.flatMap ziO).length + 1):=by
      unfold zgF
      have e:(zd7 t.text ++ y).drop (0 + 1) = t.text.flatMap ziO ++ 34 :: y:=by unfold zd7; simp
      rw [e]
      exact zp9 y t.text _ (by rw [← e,List.length_drop]; exact Nat.le_refl _)
    have:=zmH (s:=zd7 t.text ++ y) (a:=0) rfl (by rw [hq]; exact Nat.succ_ne_zero _)
    rw [List.drop_zero,hq] at this
    refine ⟨?_,by rw [hl]; omega,by show ¬ zb1 34 = true; decide,by show ¬ (34:UInt8).toNat = 59; decide⟩
    rw [this,hk,hl]; rfl
  split at h
  · rename_i hk
    split at h
    · rename_i hq; cases h
      have:=zpX (s:=[61] ++ y) (a:=0) rfl
      rw [List.drop_zero] at this
      exact ⟨by rw [this,hk,hq]; rfl,by simp,by show ¬ zb1 61 = true; decide,by show ¬ (61:UInt8).toNat = 59; decide⟩
    · cases h
  · cases h
def zmX:List TokL → List Tx → Nat → List TokL
  | t :: r,x :: xs,k=>⟨t.kind,t.text,(k:Int)⟩ :: zmX r xs (k + x.length + 1)
  | _,_,_=>[]
theorem zfO:∀ (l:List TokL) (o:List Tx) (k:Nat),wrL l = some o → (zmX l o k).length = l.length ∧ o.length = l.length
  | [],o,k,h=>by cases h; exact ⟨rfl,rfl⟩
  | t :: r, o, k, h => by
    rw [wrL] at h
    cases ht:wrT t with
    | none=>rw [ht] at h; cases h
    | some x =>
      rw [ht,Option.bind_some] at h
      cases hr:wrL r with
      | none=>rw [hr] at h; cases h
      | some xs =>
        rw [hr] at h; cases h
        have:=zfO r xs (k + x.length + 1) hr
        exact ⟨by show (zmX r xs _).length + 1 = _; rw [this.1]; rfl,by show xs.length + 1 = _; rw [this.2]; rfl⟩
theorem zmE:∀ (l:List TokL) (o:List Tx) (n k:Nat),wrL l = some o → (Lib.join o [32]).length ≤ n → zcU n (Lib.join o [32]) k = (zmX l o k,(0,0))
  | [], o, n, k, h, _ => by
    cases h
    cases n with
    | zero=>rfl
    | succ n=>rw [ztP,zcU,if_pos (.inl rfl)]; rfl
  | t :: r, o, n, k, h, hn => by
    rw [wrL] at h
    cases ht:wrT t with
    | none=>rw [ht] at h; cases h
    | some x =>
      rw [ht,Option.bind_some] at h
      cases hr:wrL r with
      | none=>rw [hr] at h; cases h
      | some xs =>
        rw [hr] at h; cases h
        cases xs with
        | nil =>
          rw [zfR] at hn ⊢
          obtain ⟨h1,h2,h3,h4⟩:=zsN (y:=[]) ht (.inl rfl)
          rw [List.append_nil] at h1
          cases n with
          | zero=>omega
          | succ n =>
            rw [zcU,if_neg (by omega),if_neg h3,h1]
            dsimp only
            rw [List.drop_length]
            have:zcU n [] (k + x.length) = ([],(0,0)):=by cases n <;> rfl
            rw [this,if_pos rfl]
            cases r with
            | nil=>rfl
            | cons t2 r2=>have:=(zfO _ _ 0 hr).2; cases this
        | cons x2 xs2 =>
          rw [join_cons] at hn ⊢
          obtain ⟨h1,h2,h3,h4⟩:=zsN (y:=32 :: Lib.join (x2 :: xs2) [32]) ht (.inr rfl)
          have e0:(x ++ 32 :: Lib.join (x2 :: xs2) [32]).getD 0 0 = x.getD 0 0:=ziY h2
          rw [List.length_append,List.length_cons] at hn
          cases n with
          | zero=>omega
          | succ n =>
            rw [zcU,e0,if_neg (by rw [List.length_append]; omega),if_neg h3,h1]
            dsimp only
            rw [List.drop_left]
            cases n with
            | zero=>omega
            | succ n =>
              have e2:zcU (n + 1) (32 :: Lib.join (x2 :: xs2) [32]) (k + x.length) = zcU n (Lib.join (x2 :: xs2) [32]) (k + x.length + 1):=by
                rw [zcU,if_neg (show ¬ ((32 :: Lib.join (x2 :: xs2) [32]).length = 0 ∨ ((32 :: Lib.join (x2 :: xs2) [32]).getD 0 0).toNat = 59) from fun q=>q.elim (fun q=>by simp at q) (fun q=>absurd (show (32:UInt8).toNat = 59 from q) (by decide))),if_pos (show zb1 ((32 :: Lib.join (x2 :: xs2) [32]).getD 0 0) = true from (show zb1 32 = true by decide))]; rfl
              rw [e2,zmE r (x2 :: xs2) n (k + x.length + 1) hr (by omega),if_pos rfl]; rfl
theorem zgn {l:List TokL} {o:List Tx} (h:wrL l = some o):zbn (Lib.join o [32]) = (zmX l o 0,(0,0)):=zmE l o _ 0 h (Nat.le_refl _)
theorem zjr:∀ (l:List TokL) (o:List Tx) (k i:Nat),wrL l = some o → i < l.length → (zmX l o k).getD i zaM = ⟨(l.getD i zaM).kind,(l.getD i zaM).text,((k + osz (o.take i):Nat):Int)⟩ ∧ wrT (l.getD i zaM) = some (o.getD i [])
  | [],o,k,i,_,hi=>by simp at hi
  | t :: r, o, k, i, h, hi => by
    rw [wrL] at h
    cases ht:wrT t with
    | none=>rw [ht] at h; cases h
    | some x =>
      rw [ht,Option.bind_some] at h
      cases hr:wrL r with
      | none=>rw [hr] at h; cases h
      | some xs =>
        rw [hr] at h; cases h
        cases i with
        | zero=>exact ⟨rfl,ht⟩
        | succ i =>
          have:=zjr r xs (k + x.length + 1) i hr (by simpa using hi)
          refine ⟨?_,this.2⟩
          show (zmX r xs (k + x.length + 1)).getD i zaM = _
          rw [this.1]
          show (⟨_,_,_⟩:TokL) = ⟨_,_,_⟩
          congr 1
          rw [List.take_succ_cons,osz]; omega
theorem zlF:∀ (n:Nat) (s:Tx) (k:Nat),s.length ≤ n → wsz (zcU n s k).1 ≤ 7 * s.length ∧ (zcU n s k).1.length ≤ s.length
  | 0,s,k,_=>⟨Nat.zero_le _,Nat.zero_le _⟩
  | n + 1, s, k, hn => by
    rw [zcU]
    split
    · exact ⟨Nat.zero_le _,Nat.zero_le _⟩
    · rename_i h0
      have h0':0 < s.length:=by rcases Nat.eq_zero_or_pos s.length with h | h; exact absurd (.inl h) h0; exact h
      split
      · have := zlF n (s.drop 1) (k + 1) (by rw [List.length_drop]; omega)
        rw [List.length_drop] at this; omega
      · cases hp : zfF s with
        | error e=>exact ⟨Nat.zero_le _,Nat.zero_le _⟩
        | ok q =>
          obtain ⟨kd,t,m⟩:=q
          dsimp only
          have hm:=zhb (kd:=kd) (t:=t) (m:=m) h0' hp
          have:=zlF n (s.drop m) (k + m) (by rw [List.length_drop]; omega)
          rw [List.length_drop] at this
          split
          · rw [wsz,List.length_cons]; dsimp only; omega
          · exact ⟨Nat.zero_le _,Nat.zero_le _⟩
theorem zto (s:Tx):(zd7 s).all (fun c=>decide (32 ≤ c.toNat ∧ c.toNat ≤ 126)) = true:=by
  unfold zd7
  have h1:∀ c:UInt8,(ziO c).all (fun c=>decide (32 ≤ c.toNat ∧ c.toNat ≤ 126)) = true:=fun c=>by
    have hx:∀ n < 16,32 ≤ (zl4 n).toNat ∧ (zl4 n).toNat ≤ 126:=by decide
    have hc:=c.toNat_lt
    by_cases h1:c.toNat < 32 ∨ 126 < c.toNat
    · rw [ziM h1]
      have:=hx (c.toNat / 16) O; have:=hx (c.toNat % 16) O
      simp; omega
    · by_cases h2 : c.toNat = 34 ∨ c.toNat = 92
      · rw [ziN h1 h2]; simp; omega
      · rw [zlR h1 h2]; simp; omega
  rw [List.all_cons,List.all_append,List.all_flatMap]
  rw [List.all_eq_true.2 (fun c _=>h1 c)]; decide
theorem zje (s:Tx):wsz (zbn s).1 ≤ 7 * s.length:=(zlF _ s 0 (Nat.le_refl _)).1
theorem zkJ {l:List TokL} {o:List Tx} (h:wrL l = some o):wrF l = some (Lib.join o [32]):=by rw [zlB,h]; rfl
theorem zqj {o:List Tx} (h:0 < o.length):osz o = (Lib.join o [32]).length + 1:=by
  induction o with
  | nil=>simp at h
  | cons x r ih =>
    cases r with
    | nil=>rw [zfR]; rfl
    | cons y q =>
      have:=ih (by simp)
      rw [osz,this,join_cons,List.length_append,List.length_cons]; omega
theorem zja {l:List TokL} {i:Nat} (h:i < l.length):4 * (l.getD i zaM).text.length + 3 ≤ wsz l:=by
  induction l generalizing i with
  | nil=>simp at h
  | cons t r ih =>
    cases i with
    | zero=>show 4 * t.text.length + 3 ≤ _; rw [wsz]; omega
    | succ i =>
      have:=ih (i:=i) (by simpa using h)
      show 4 * (r.getD i zaM).text.length + 3 ≤ _
      rw [wsz]; omega
def zlf (r:Tx):Tx:=r.takeWhile fun c=>decide (c.toNat ≠ 10)
def zjY (r:Tx):Tx:=r.drop ((zlf r).length + 1)
def lnN:Nat → Tx → List Tx
  | 0,_=>[]
  | n + 1,r=>if r.length = 0 then [] else zlf r :: lnN n (zjY r)
def lnF (r:Tx):List Tx:=lnN r.length r
theorem zgs (r:Tx):(zjY r).length ≤ r.length - 1:=by unfold zjY; rw [List.length_drop]; omega
theorem zqm:∀ (n m:Nat) (r:Tx),r.length ≤ n → r.length ≤ m → lnN n r = lnN m r
  | 0,0,r,_,_=>rfl
  | 0,m + 1,r,h,_=>by rw [lnN,lnN,if_pos (by omega)]
  | n + 1,0,r,_,h=>by rw [lnN,lnN,if_pos (by omega)]
  | n + 1, m + 1, r, h1, h2 => by
    rw [lnN,lnN]
    split
    · rfl
    · rw [zqm n m (zjY r) (by have:=zgs r; omega) (by have:=zgs r; omega)]
theorem zh5 {r:Tx} (h:r.length = 0):lnF r = []:=by
  unfold lnF; rw [h]; rfl
theorem ziR {r:Tx} (h:0 < r.length):lnF r = zlf r :: lnF (zjY r):=by
  unfold lnF
  rw [show r.length = (r.length - 1) + 1 by omega,lnN,if_neg (by omega),zqm (r.length - 1) (zjY r).length (zjY r) (by have:=zgs r; omega) (Nat.le_refl _)]
theorem zjZ (c:UInt8) (r:Tx):zlf (c :: r) = if c.toNat = 10 then [] else c :: zlf r:=by
  unfold zlf; rw [List.takeWhile_cons]
  by_cases h:c.toNat = 10
  · rw [if_pos h,if_neg (by simp [h])]
  · rw [if_neg h,if_pos (by simp [h])]
theorem zuo:∀ {r:Tx},(∀ j,j < r.length → (r.getD j 0).toNat ≠ 10) → zlf r = r ∧ zjY r = []
  | [],_=>⟨rfl,rfl⟩
  | c :: r, h => by
    have h0:c.toNat ≠ 10:=h 0 (by simp)
    have ih:=zuo (r:=r) fun j hj=>h (j + 1) (by simpa using hj)
    have e:zlf (c :: r) = c :: r:=by rw [zjZ,if_neg h0,ih.1]
    refine ⟨e,?_⟩
    unfold zjY; rw [e]; exact List.drop_eq_nil_of_le (by omega)
theorem zun:∀ {r:Tx} {k:Nat},k < r.length → (∀ j,j < k → (r.getD j 0).toNat ≠ 10) → (r.getD k 0).toNat = 10 → zlf r = r.take k ∧ zjY r = r.drop (k + 1)
  | [],k,h,_,_=>by simp at h
  | c :: r, 0, _, _, h => by
    have h0:c.toNat = 10:=h
    have e:zlf (c :: r) = []:=by rw [zjZ,if_pos h0]
    refine ⟨e,?_⟩
    unfold zjY; rw [e]; rfl
  | c :: r, k + 1, hk, hn, h => by
    have h0:c.toNat ≠ 10:=hn 0 O
    have ih:=zun (r:=r) (k:=k) (by simpa using hk) (fun j hj=>hn (j + 1) (by omega)) h
    have e:zlf (c :: r) = (c :: r).take (k + 1):=by rw [zjZ,if_neg h0,ih.1]; rfl
    refine ⟨e,?_⟩
    unfold zjY; rw [e,List.length_take,Nat.min_eq_left (by omega)]
theorem idx_ge (l:Tx):-1 ≤ Lib.indexByte l 10:=Lib.indexByte_ge l 10
theorem zhw:∀ r:Tx,(Lib.indexByte r 10 = -1 ∧ ∀ j,j < r.length → (r.getD j 0).toNat ≠ 10) ∨ ∃ k,k < r.length ∧ Lib.indexByte r 10 = (k:Int) ∧ (∀ j,j < k → (r.getD j 0).toNat ≠ 10) ∧ (r.getD k 0).toNat = 10
  | []=>.inl ⟨rfl,fun j h=>absurd h (Nat.not_lt_zero _)⟩
  | c :: r => by
    by_cases h:c = 10
    · subst h
      exact .inr ⟨0,by simp,rfl,fun j hj=>absurd hj (Nat.not_lt_zero _),rfl⟩
    · have hb : (c == 10) = false := by rw [beq_eq_false_iff_ne]; exact h
      have h0:c.toNat ≠ 10:=fun e=>h (UInt8.toNat_inj.1 e)
      rcases zhw r with ⟨h1,h2⟩ | ⟨k,h1,h2,h3,h4⟩
      · refine .inl ⟨?_, fun j hj => ?_⟩
        · unfold Lib.indexByte; rw [hb,h1]; rfl
        · cases j with
          | zero=>exact h0
          | succ j=>exact h2 j (by simpa using hj)
      · refine .inr ⟨k + 1, by simpa using h1, ?_, fun j hj => ?_, h4⟩
        · unfold Lib.indexByte; rw [hb, h2]
          have:((k:Int) == -1) = false:=by rw [beq_eq_false_iff_ne]; omega
          simp only [this]; rfl
        · cases j with
          | zero=>exact h0
          | succ j=>exact h3 j O
theorem zym {r:Tx} (h:Lib.indexByte r 10 < 0):zlf r = r ∧ zjY r = []:=by
  rcases zhw r with ⟨_,h2⟩ | ⟨k,_,h2,_,_⟩
  · exact zuo h2
  · omega
theorem zyl {r:Tx} (h:¬ Lib.indexByte r 10 < 0):Lib.indexByte r 10 < r.length ∧ zlf r = r.take (Lib.indexByte r 10).toNat ∧ zjY r = r.drop (Lib.indexByte r 10 + 1).toNat:=by
  rcases zhw r with ⟨h1,h2⟩ | ⟨k,h1,h2,h3,h4⟩
  · omega
  · have := zun h1 h3 h4
    rw [h2]; exact ⟨by omega,this.1,by rw [this.2]; congr 1⟩
theorem ztK:∀ (n:Nat) (r:Tx),r.length ≤ n → (lnF r).length ≤ r.length
  | 0,r,h=>by rw [zh5 (by omega)]; exact Nat.zero_le _
  | n + 1, r, h => by
    rcases Nat.eq_zero_or_pos r.length with h0 | h0
    · rw [zh5 h0]; exact Nat.zero_le _
    · have h1 := zgs r
      have:=ztK n (zjY r) O
      rw [ziR h0,List.length_cons]; omega
theorem zjB (r:Tx):(lnF r).length ≤ r.length:=ztK _ r (Nat.le_refl _)
def lnR (t:Tx) (i:Nat) (r:Tx):Prop:=i ≤ (lnF t).length ∧ (lnF t).drop i = lnF r ∧ r.length ≤ t.length
theorem zni (t:Tx):lnR t 0 t:=⟨Nat.zero_le _,rfl,Nat.le_refl _⟩
theorem zgH {t r:Tx} {i:Nat} (h:lnR t i r) (hr:r ≠ []):i < (lnF t).length ∧ (lnF t).getD i [] = zlf r ∧ lnR t (i + 1) (zjY r) ∧ (zjY r).length < r.length:=by
  have hp:=List.length_pos_iff.2 hr
  have e:=h.2.1
  rw [ziR hp] at e
  have hi:i < (lnF t).length:=by
    rcases Nat.lt_or_ge i (lnF t).length with h1 | h1
    · exact h1
    · rw [List.drop_eq_nil_of_le h1] at e; cases e
  rw [List.drop_eq_getElem_cons hi] at e
  injection e with e1 e2
  have hb:=zgs r
  have hl:=h.2.2
  refine ⟨hi,?_,⟨hi,e2,by omega⟩,by omega⟩
  rw [← e1]; simp [List.getD,hi]
theorem ztJ {t:Tx} {i:Nat} (h:lnR t i []):i = (lnF t).length:=by
  have e:=h.2.1
  rw [zh5 (r:=([]:Tx)) rfl] at e
  have:=congrArg List.length e
  rw [List.length_drop] at this
  have:=h.1
  simp at *; omega
def modW:Tx:=[109,111,100,117,108,101]
def zeY (n:Int) (l:List TokL):(Int × Int) × (Int × Int) :=
  if l.length = 0 then ((0,0),(72,n))
  else if (l.getD 0 zaM).kind ≠ 1 ∨ (l.getD 0 zaM).text ≠ modW then ((0,0),(70,(l.getD 0 zaM).at_))
  else if l.length = 1 then ((0,0),(72,n))
  else if (l.getD 1 zaM).kind ≠ 3 then ((0,0),(70,(l.getD 1 zaM).at_))
  else if (za3 (l.getD 1 zaM).text).2 ≠ 0 then ((0,0),((za3 (l.getD 1 zaM).text).2,(l.getD 1 zaM).at_))
  else if l.length = 2 then ((0,0),(72,n))
  else if (l.getD 2 zaM).kind ≠ 3 then ((0,0),(70,(l.getD 2 zaM).at_))
  else if (za3 (l.getD 2 zaM).text).2 ≠ 0 then ((0,0),((za3 (l.getD 2 zaM).text).2,(l.getD 2 zaM).at_))
  else if (za3 (l.getD 2 zaM).text).1 < 1 ∨ 65536 < (za3 (l.getD 2 zaM).text).1 then ((0,0),(24,(l.getD 2 zaM).at_))
  else if 3 < l.length then ((0,0),(70,(l.getD 3 zaM).at_))
  else (((za3 (l.getD 1 zaM).text).1,(za3 (l.getD 2 zaM).text).1),(0,0))
def zcY (s:Tx):(Int × Int) × (Int × Int):=if (zbn s).2.1 ≠ 0 then ((0,0),(zbn s).2) else zeY s.length (zbn s).1
section
variable {n:Int} {l:List TokL}
theorem zky (hk:(l.getD 0 zaM).kind = 1) (ht:(l.getD 0 zaM).text = modW) (h0:1 < l.length):zeY n l =
    if (l.getD 1 zaM).kind ≠ 3 then ((0,0),(70,(l.getD 1 zaM).at_))
    else if (za3 (l.getD 1 zaM).text).2 ≠ 0 then ((0,0),((za3 (l.getD 1 zaM).text).2,(l.getD 1 zaM).at_))
    else if l.length = 2 then ((0,0),(72,n))
    else if (l.getD 2 zaM).kind ≠ 3 then ((0,0),(70,(l.getD 2 zaM).at_))
    else if (za3 (l.getD 2 zaM).text).2 ≠ 0 then ((0,0),((za3 (l.getD 2 zaM).text).2,(l.getD 2 zaM).at_))
    else if (za3 (l.getD 2 zaM).text).1 < 1 ∨ 65536 < (za3 (l.getD 2 zaM).text).1 then ((0,0),(24,(l.getD 2 zaM).at_))
    else if 3 < l.length then ((0,0),(70,(l.getD 3 zaM).at_))
    else (((za3 (l.getD 1 zaM).text).1,(za3 (l.getD 2 zaM).text).1),(0,0)):=by
  conv=>lhs; unfold zeY
  rw [if_neg (by omega),if_neg (by rintro (q | q) <;> contradiction),if_neg (by omega)]
end
def idL (t:Tx) (Y:Int):Int:=if 1 ≤ (plR t:Int) ∧ (plR t:Int) < Y then (plR t:Int) else 0
def zfC (c:Int):Int:=if c = 105 then 2 else if c = 110 then 3 else if c = 115 then 4 else 1
def zb4 (c:Int) (t:TokL) (Y:Int):ArgP × Int :=
  if c = 0 ∨ t.kind ≠ zfC c then (zeroA,70)
  else if c = 105 then (if idL t.text Y = 0 then (zeroA,43) else (⟨1,idL t.text Y,[]⟩,0))
  else if c = 110 then (if (za3 t.text).2 ≠ 0 then (zeroA,(za3 t.text).2) else (⟨2,(za3 t.text).1,[]⟩,0))
  else if c = 115 then (if zbr t.text ≠ t.text.length then (zeroA,13) else (⟨3,0,t.text⟩,0))
  else if (namesL.find? (enS c t.text)).isSome = false then (zeroA,71)
  else (⟨4,((namesL.find? (enS c t.text)).getD zdq).n,[]⟩,0)
def zcq (fm:FormL) (Y:Int):Nat → List TokL → List ArgP × (Int × Int)
  | _,[]=>([],(0,0))
  | k, t :: r =>
    if (zb4 (zaJ fm k) t Y).2 ≠ 0 then ([],((zb4 (zaJ fm k) t Y).2,t.at_))
    else ((zb4 (zaJ fm k) t Y).1 :: (zcq fm Y (k + 1) r).1,(zcq fm Y (k + 1) r).2)
def ziz (l:List TokL):Nat:=if (l.getD 0 zaM).kind = 2 then 2 else 0
def zfQ (n:Int) (l:List TokL) (Y:Int) (fm:FormL):InstL × Bool × (Int × Int) :=
  if fm.res ≠ decide ((l.getD 0 zaM).kind = 2) then (zeroIL,false,(41,(l.getD 0 zaM).at_))
  else if (l.getD 0 zaM).kind = 2 ∧ idL (l.getD 0 zaM).text Y = 0 then (zeroIL,false,(43,(l.getD 0 zaM).at_))
  else if fm.ty = true ∧ l.length = ziz l + 1 then (zeroIL,false,(72,n))
  else if fm.ty = true ∧ (l.getD (ziz l + 1) zaM).kind ≠ 2 then (zeroIL,false,(70,(l.getD (ziz l + 1) zaM).at_))
  else if fm.ty = true ∧ idL (l.getD (ziz l + 1) zaM).text Y = 0 then (zeroIL,false,(43,(l.getD (ziz l + 1) zaM).at_))
  else if (zcq fm Y 0 (l.drop (ziz l + 1 + b2n fm.ty))).2.1 ≠ 0 then (zeroIL,false,(zcq fm Y 0 (l.drop (ziz l + 1 + b2n fm.ty))).2)
  else if (ze0 fm.op ((zcq fm Y 0 (l.drop (ziz l + 1 + b2n fm.ty))).1.map ArgP.kind)).2 = false then (zeroIL,false,(72,n))
  else if zbY fm (zcq fm Y 0 (l.drop (ziz l + 1 + b2n fm.ty))).1 > 65535 then (zeroIL,false,(25,0))
  else (⟨fm.op,if fm.ty = true then idL (l.getD (ziz l + 1) zaM).text Y else 0,if (l.getD 0 zaM).kind = 2 then idL (l.getD 0 zaM).text Y else 0,(zcq fm Y 0 (l.drop (ziz l + 1 + b2n fm.ty))).1⟩,true,(0,0))
def zcJ (n:Int) (l:List TokL) (Y:Int):InstL × Bool × (Int × Int) :=
  if l.length = 0 then (zeroIL,false,(0,0))
  else if (l.getD 0 zaM).kind = 2 ∧ l.length = 1 then (zeroIL,false,(72,n))
  else if (l.getD 0 zaM).kind = 2 ∧ (l.getD 1 zaM).kind ≠ 5 then (zeroIL,false,(70,(l.getD 1 zaM).at_))
  else if (l.getD 0 zaM).kind = 2 ∧ l.length = 2 then (zeroIL,false,(72,n))
  else if (l.getD (ziz l) zaM).kind ≠ 1 then (zeroIL,false,(70,(l.getD (ziz l) zaM).at_))
  else if (refT.find? (nmF (l.getD (ziz l) zaM).text)).isSome = false then (zeroIL,false,(71,(l.getD (ziz l) zaM).at_))
  else zfQ n l Y ((refT.find? (nmF (l.getD (ziz l) zaM).text)).getD zeroF)
def za4 (s:Tx) (Y:Int):InstL × Bool × (Int × Int):=if (zbn s).2.1 ≠ 0 then (zeroIL,false,(zbn s).2) else zcJ s.length (zbn s).1 Y
structure PaL where
  gn:Int
  bd:Int
  words:Nat
  insts:List InstL
def zi9 (e a:Int):zyU:=((0,0,[]),(e,a))
def zlT (x:Tx) (s:PaL):Except Int PaL :=
  if s.words = 0 then
    if (zbn x).2.1 = 0 ∧ (zbn x).1.length = 0 then .ok s
    else if (zcY x).2.1 ≠ 0 then .error (zcY x).2.1
    else .ok ⟨(zcY x).1.1,(zcY x).1.2,5,[]⟩
  else if (za4 x s.bd).2.2.1 ≠ 0 then .error (za4 x s.bd).2.2.1
  else if (za4 x s.bd).2.1 = false then .ok s
  else if s.words + zbY (zaW (za4 x s.bd).1.op) (za4 x s.bd).1.args > 1048576 then .error 4
  else .ok ⟨s.gn,s.bd,s.words + zbY (zaW (za4 x s.bd).1.op) (za4 x s.bd).1.args,s.insts ++ [(za4 x s.bd).1]⟩
def zkY:Nat → List Tx → PaL → zyU
  | n,[],s=>if s.words = 0 then zi9 72 n else ((s.gn,s.bd,s.insts),(0,0))
  | n, x :: r, s => match zlT x s with
    | .error e=>zi9 e (n + 1)
    | .ok t=>zkY (n + 1) r t
def zet (t:Tx):zyU:=if t.length > 16777216 then zi9 4 0 else zkY 0 (lnF t) ⟨0,0,0,[]⟩
def zdW (n:Int):Tx:=Lib.decDigits n.toNat
def idK (n:Int):TokL:=⟨2,zdW n,0⟩
def zg7 (c:Int) (a:ArgP):TokL :=
  if a.kind = 1 then ⟨2,zdW a.n,0⟩ else if a.kind = 2 then ⟨3,zdW a.n,0⟩ else if a.kind = 3 then ⟨4,a.s,0⟩ else ⟨1,((namesL.find? (enN c a.n)).getD zdq).name,0⟩
def zfn (fm:FormL):Nat → List ArgP → List TokL
  | _,[]=>[]
  | k,a :: r=>zg7 (zaJ fm k) a :: zfn fm (k + 1) r
def zhT (i:InstL):List TokL :=
  (if (zaW i.op).res = true then [idK i.res,⟨5,[61],0⟩] else []) ++ (⟨1,(zaW i.op).name,0⟩ :: ((if (zaW i.op).ty = true then [idK i.ty] else []) ++ zfn (zaW i.op) 0 i.args))
def zeE (Y:Int) (i:InstL):Tx × Int:=if za7 Y i ≠ 0 then ([],za7 Y i) else (wrS (zhT i),0)
abbrev ktL (l:List TokL):List (Int × Tx):=l.map fun t=>(t.kind,t.text)
theorem zeF {l:List TokL} {k:Int} {x:Tx} {z:List (Int × Tx)} (h:ktL l = (k,x) :: z):∃ t r,l = t :: r ∧ t.kind = k ∧ t.text = x ∧ ktL r = z:=by
  cases l with
  | nil=>cases h
  | cons t r =>
    injection h with h1 h2
    injection h1 with h3 h4
    exact ⟨t,r,rfl,h3,h4,h2⟩
theorem zyH {c Y:Int} {t u:TokL} (hk:t.kind = u.kind) (ht:t.text = u.text):zb4 c t Y = zb4 c u Y:=by
  unfold zb4; rw [hk,ht]
theorem zxn {n Y:Int} (h:idE n Y = 0):n ≠ 0 ∧ n < Y:=by
  unfold idE at h
  split at h
  · cases h
  · omega
theorem zmi {n Y:Int} (h0:0 ≤ n) (h1:n < 4294967296) (h:n ≠ 0 ∧ n < Y):idL (zdW n) Y = n ∧ n ≠ 0:=by
  have hp:=(zqc (ze3 (u:=n.toNat) O)).1
  unfold idL zdW
  rw [hp,if_pos (by omega)]; omega
theorem zwO {c Y:Int} {a:ArgP} (h:zbv c a Y = 0) (hk:zbR c ≠ 0) (h0:0 ≤ a.n) (h1:a.n < 4294967296):zb4 c (zg7 c a) Y = (a,0):=by
  obtain ⟨k,n,s⟩:=a
  obtain ⟨hc,hkd,h3,hs,hid,hen,hz⟩:=zcw h
  dsimp only at hkd h3 hs hid hen hz h0 h1
  by_cases hc1:c = 105
  · subst hc1
    have hk1:k = 1:=hkd
    subst hk1
    have hi:=zmi h0 h1 (zxn (hid rfl))
    rw [show zg7 105 ⟨1,n,s⟩ = ⟨2,zdW n,0⟩ from rfl]
    unfold zb4
    rw [if_neg (by simp [zfC]),if_pos rfl]
    dsimp only
    rw [if_neg (by rw [hi.1]; exact hi.2),hi.1,hs (by decide)]
  by_cases hc2:c = 110
  · subst hc2
    have hk1:k = 2:=hkd
    subst hk1
    have hp:za3 (zdW n) = (n,0):=by
      have hp:=zgi (ze3 (u:=n.toNat) O)
      rw [show ((n.toNat:Nat):Int) = n by omega] at hp; exact hp
    rw [show zg7 110 ⟨2,n,s⟩ = ⟨3,zdW n,0⟩ from rfl]
    unfold zb4
    rw [if_neg (by simp [zfC]),if_neg (by decide),if_pos rfl]
    refine (if_neg (show ¬ (za3 (zdW n)).2 ≠ 0 by rw [hp]; simp)).trans ?_
    show ((⟨2,(za3 (zdW n)).1,[]⟩:ArgP),(0:Int)) = _
    rw [hp,hs (by decide)]
  by_cases hc3:c = 115
  · subst hc3
    have hk1:k = 3:=hkd
    subst hk1
    rw [show zg7 115 ⟨3,n,s⟩ = ⟨4,s,0⟩ from rfl]
    unfold zb4
    rw [if_neg (by simp [zfC]),if_neg (by decide),if_neg (by decide),if_pos rfl]
    dsimp only
    rw [if_neg (by rw [hz]; simp),h3 rfl]
  have hk1:k = 4:=by
    rw [hkd]; unfold zbR at hk hkd ⊢
    rw [if_neg hc1,if_neg hc2,if_neg hc3] at hk ⊢
    split
    · rfl
    · rename_i q; rw [if_neg q] at hk; exact absurd rfl hk
  subst hk1
  have he:=hen rfl
  unfold zgX at he
  cases hf:namesL.find? (enN c n) with
  | none=>rw [hf,if_neg (by simp)] at he; cases he
  | some x =>
    obtain ⟨hx1,hx2,hx3,_⟩:=znH hf
    rw [show zg7 c ⟨4,n,s⟩ = ⟨1,((namesL.find? (enN c n)).getD zdq).name,0⟩ from rfl,hf]
    unfold zb4
    dsimp only [Option.getD_some]
    rw [if_neg (by unfold zfC; rw [if_neg hc1,if_neg hc2,if_neg hc3]; simp [hc]),if_neg hc1,if_neg hc2,if_neg hc3,if_neg (show ¬ (namesL.find? (enS c x.name)).isSome = false by rw [hx3]; simp),hx3]
    dsimp only [Option.getD_some]
    rw [hx2,hs (by decide)]
theorem znX {op Y:Int}:∀ (l:List ArgP) (k:Nat) (r:List TokL),ktL r = ktL (zfn (zaW op) k l) → zby (zaW op) Y k l = 0 → (∀ a ∈ l,0 ≤ a.n ∧ a.n < 4294967296) → zcq (zaW op) Y k r = (l,(0,0))
  | [], k, r, h, _, _ => by
    cases r with
    | nil=>rfl
    | cons t r=>cases h
  | a :: l, k, r, h, hw, hn => by
    obtain ⟨t,r,rfl,hk,ht,hr⟩:=zeF (k:=(zg7 (zaJ (zaW op) k) a).kind) (x:=(zg7 (zaJ (zaW op) k) a).text) (z:=ktL (zfn (zaW op) (k + 1) l)) h
    have h2:=zgO hw
    have hz:=zcw h2.1
    have ha:=zwO h2.1 (zhk _ _ hz.1) (hn a (.head _)).1 (hn a (.head _)).2
    have ih:=znX l (k + 1) r hr h2.2 (fun b hb=>hn b (.tail _ hb))
    unfold zcq
    rw [zyH hk ht,ha,if_neg (by simp),ih]
theorem ze1 {Y:Int} {i:InstL} (h:za7 Y i = 0):(zc6 i.op).isSome = true ∧ idH (zaW i.op).ty i.ty Y 40 = 0 ∧ idH (zaW i.op).res i.res Y 41 = 0 ∧ zby (zaW i.op) Y 0 i.args = 0 ∧ ¬ znb (zaW i.op) i.args.length ∧ ¬ zbY (zaW i.op) i.args > 65535:=by
  unfold za7 at h
  split at h
  · cases h
  split at h
  · rename_i q; exact absurd h q
  split at h
  · rename_i q; exact absurd h q
  split at h
  · rename_i q; exact absurd h q
  split at h
  · cases h
  split at h
  · cases h
  · rename_i h1 h2 h3 h4 h5 h6
    exact ⟨by revert h1; cases (zc6 i.op).isSome <;> simp,Nn h2,Nn h3,Nn h4,h5,h6⟩
structure InstL.U32 (i:InstL):Prop where
  ty:0 ≤ i.ty ∧ i.ty < 4294967296
  res:0 ≤ i.res ∧ i.res < 4294967296
  args:∀ a ∈ i.args,0 ≤ a.n ∧ a.n < 4294967296
theorem ztL {Y n:Int} {i:InstL} {l:List TokL} (hkt:ktL l = ktL (zhT i)) (hf:za7 Y i = 0) (hu:i.U32):zcJ n l Y = (i,true,(0,0)):=by
  obtain ⟨h1,h2,h3,h4,h5,h6⟩:=ze1 hf
  obtain ⟨fm,hfm⟩:=Option.isSome_iff_exists.1 h1
  have hop:=ztk hfm
  have hD:zaW i.op = fm:=by rw [zaW,hfm]; rfl
  have hfind:=znG hfm
  have hfits:(ze0 i.op (i.args.map ArgP.kind)).2 = true:=by
    rw [zez rfl rfl h1,ziZ (zjb h4) (by rwa [List.length_map])]
  obtain ⟨op,ty,res,args⟩:=i
  dsimp only at *
  have hty:=ziU De h2
  have hres:=ziU De h3
  have hargs:=fun r hr=>znX (op:=op) args 0 r hr h4 hu.args
  unfold zhT at hkt
  dsimp only at hkt
  rw [hD] at hkt hty hres hargs h6
  cases hr:fm.res with
  | true =>
    rw [hr,if_pos rfl] at hkt
    obtain ⟨t0,l,rfl,k0,x0,hkt⟩:=zeF (k:=2) (x:=zdW res) (z:=_) hkt
    obtain ⟨t1,l,rfl,k1,x1,hkt⟩:=zeF (k:=5) (x:=[61]) (z:=_) hkt
    obtain ⟨t2,l,rfl,k2,x2,hkt⟩:=zeF (k:=1) (x:=fm.name) (z:=_) hkt
    have hrr:=zmi hu.res.1 hu.res.2 (hres.1 hr)
    dsimp only at hrr
    have hat:ziz (t0 :: t1 :: t2 :: l) = 2:=if_pos k0
    unfold zcJ
    rw [hat,if_neg (by simp),if_neg (by simp),if_neg (by simp [List.getD,k1]),if_neg (by simp),if_neg (by simp [List.getD,k2])]
    have hq:((t0 :: t1 :: t2 :: l).getD 2 zaM).text = fm.name:=x2
    rw [hq,hfind,if_neg (by simp),Option.getD_some]
    unfold zfQ
    rw [hat]
    have hq0:((t0 :: t1 :: t2 :: l).getD 0 zaM) = t0:=rfl
    rw [hq0,k0,x0,hrr.1,if_neg (by simp [hr]),if_neg (by simp [hrr.2]),if_pos rfl]
    cases ht:fm.ty with
    | true =>
      rw [ht,if_pos rfl] at hkt
      obtain ⟨t3,l,rfl,k3,x3,hkt⟩:=zeF (k:=2) (x:=zdW ty) (z:=_) hkt
      have htt:=zmi hu.ty.1 hu.ty.2 (hty.1 ht)
      dsimp only at htt
      have hq3:((t0 :: t1 :: t2 :: t3 :: l).getD (2 + 1) zaM) = t3:=rfl
      rw [hq3,k3,x3,htt.1,if_neg (by simp),if_neg (by simp),if_neg (by simp [htt.2]),show (t0 :: t1 :: t2 :: t3 :: l).drop (2 + 1 + b2n true) = l from rfl,hargs l hkt]
      dsimp only
      rw [hop,if_neg (by simp),hfits,if_neg (by simp),if_neg h6,if_pos rfl]
    | false =>
      rw [ht] at hkt
      rw [if_neg (by simp),if_neg (by simp),if_neg (by simp),show (t0 :: t1 :: t2 :: l).drop (2 + 1 + b2n false) = l from rfl,hargs l hkt]
      dsimp only
      rw [hop,if_neg (by simp),hfits,if_neg (by simp),if_neg h6,if_neg (by simp),hty.2 ht]
  | false =>
    rw [hr,if_neg (by simp)] at hkt
    obtain ⟨t2,l,rfl,k2,x2,hkt⟩:=zeF (k:=1) (x:=fm.name) (z:=_) hkt
    have hat:ziz (t2 :: l) = 0:=if_neg (show ¬ t2.kind = 2 by omega)
    have hq0:((t2 :: l).getD 0 zaM) = t2:=rfl
    unfold zcJ
    rw [hat,hq0,k2,if_neg (by simp),if_neg (by simp),if_neg (by simp),if_neg (by simp),if_neg (by simp),x2,hfind,if_neg (by simp),Option.getD_some]
    unfold zfQ
    rw [hat,hq0,k2,if_neg (by simp [hr]),if_neg (by simp)]
    cases ht:fm.ty with
    | true =>
      rw [ht,if_pos rfl] at hkt
      obtain ⟨t3,l,rfl,k3,x3,hkt⟩:=zeF (k:=2) (x:=zdW ty) (z:=_) hkt
      have htt:=zmi hu.ty.1 hu.ty.2 (hty.1 ht)
      dsimp only at htt
      have hq3:((t2 :: t3 :: l).getD (0 + 1) zaM) = t3:=rfl
      rw [hq3,k3,x3,htt.1,if_neg (by simp),if_neg (by simp),if_neg (by simp [htt.2]),show (t2 :: t3 :: l).drop (0 + 1 + b2n true) = l from rfl,hargs l hkt]
      dsimp only
      rw [hop,if_neg (by simp),hfits,if_neg (by simp),if_neg h6,if_pos rfl,if_neg (by simp),hres.2 hr]
    | false =>
      rw [ht] at hkt
      rw [if_neg (by simp),if_neg (by simp),if_neg (by simp),show (t2 :: l).drop (0 + 1 + b2n false) = l from rfl,hargs l hkt]
      dsimp only
      rw [hop,if_neg (by simp),hfits,if_neg (by simp),if_neg h6,if_neg (by simp),if_neg (by simp),hty.2 ht,hres.2 hr]
def zvq (s:Tx):Bool:=decide (s ≠ []) && zgI (s.getD 0 0) && decide (zcj s = s)
theorem zkZ:refT.all (fun f=>zvq f.name) = true:=by decide +kernel
theorem zk9:namesL.all (fun x=>zvq x.name) = true:=by decide +kernel
theorem zfH {s:Tx} {a:Int} (h:zvq s = true):wrT ⟨1,s,a⟩ = some s:=by
  simp only [zvq,Bool.and_eq_true,decide_eq_true_eq] at h
  exact zsT rfl h.1.1 h.1.2 h.2
theorem zq6 {n:Int} (h0:0 ≤ n) (h1:n < 4294967296) (a:Int):wrT ⟨2,zdW n,a⟩ = some (37 :: zdW n) :=
  zsS rfl (by show (zba (Lib.decDigits n.toNat)).isSome = true; rw [ze3 (u:=n.toNat) (by omega)]; rfl)
theorem zgC {n:Int} (h0:0 ≤ n) (h1:n < 4294967296) (a:Int):wrT ⟨3,zdW n,a⟩ = some (zdW n) :=
  zsR rfl (by show (za3 (Lib.decDigits n.toNat)).2 = 0; rw [zgi (ze3 (u:=n.toNat) (by omega))])
theorem zxb {c Y:Int} {a:ArgP} (h:zbv c a Y = 0) (hk:zbR c ≠ 0) (h0:0 ≤ a.n) (h1:a.n < 4294967296):∃ x,wrT (zg7 c a) = some x:=by
  obtain ⟨k,n,s⟩:=a
  obtain ⟨hc,hkd,h3,hs,hid,hen,hz⟩:=zcw h
  dsimp only at hkd h3 hs hid hen hz h0 h1
  unfold zg7
  dsimp only
  by_cases hk1:k = 1
  · rw [if_pos hk1]; exact ⟨_,zq6 h0 h1 _⟩
  rw [if_neg hk1]
  by_cases hk2:k = 2
  · rw [if_pos hk2]; exact ⟨_,zgC h0 h1 _⟩
  rw [if_neg hk2]
  by_cases hk3:k = 3
  · rw [if_pos hk3]; exact ⟨_,zpT rfl⟩
  rw [if_neg hk3]
  have hb:=zqp c
  have hk4:k = 4:=by omega
  have he:=hen hk4
  unfold zgX at he
  cases hf:namesL.find? (enN c n) with
  | none=>rw [hf,if_neg (by simp)] at he; cases he
  | some x=>exact ⟨_,zfH (List.all_eq_true.1 zk9 x (List.mem_of_find?_eq_some hf))⟩
theorem za8 {t:TokL} {r:List TokL} {x:Tx} {o:List Tx} (h:wrT t = some x) (hr:wrL r = some o):wrL (t :: r) = some (x :: o):=by
  unfold wrL; rw [h,hr]; rfl
theorem zlA {op Y:Int}:∀ (l:List ArgP) (k:Nat),zby (zaW op) Y k l = 0 → (∀ a ∈ l,0 ≤ a.n ∧ a.n < 4294967296) → ∃ o,wrL (zfn (zaW op) k l) = some o
  | [],k,_,_=>⟨[],rfl⟩
  | a :: l, k, hw, hn => by
    have h2:=zgO hw
    have hz:=zcw h2.1
    obtain ⟨x,hx⟩:=zxb h2.1 (zhk _ _ hz.1) (hn a (.head _)).1 (hn a (.head _)).2
    obtain ⟨o,ho⟩:=zlA l (k + 1) h2.2 (fun b hb=>hn b (.tail _ hb))
    exact ⟨x :: o,za8 hx ho⟩
theorem zxN {Y:Int} {i:InstL} (hf:za7 Y i = 0) (hu:i.U32):∃ o,wrL (zhT i) = some o:=by
  obtain ⟨h1,h2,h3,h4,h5,h6⟩:=ze1 hf
  obtain ⟨fm,hfm⟩:=Option.isSome_iff_exists.1 h1
  have hD:zaW i.op = fm:=by rw [zaW,hfm]; rfl
  have hm:=(zer hfm).1
  obtain ⟨o,ho⟩:=zlA i.args 0 h4 hu.args
  have hw:=zfH (a:=0) (List.all_eq_true.1 zkZ fm hm)
  unfold zhT
  rw [hD] at ho ⊢
  have hty:=zq6 hu.ty.1 hu.ty.2 0
  have hres:=zq6 hu.res.1 hu.res.2 0
  cases fm.res <;> cases fm.ty <;> simp only [if_true,if_false,Bool.false_eq_true,List.nil_append,List.cons_append]
  · exact ⟨_,za8 hw ho⟩
  · exact ⟨_,za8 hw (za8 hty ho)⟩
  · exact ⟨_,za8 hres (za8 (zkK rfl rfl) (za8 hw ho))⟩
  · exact ⟨_,za8 hres (za8 (zkK rfl rfl) (za8 hw (za8 hty ho)))⟩
theorem zp5:∀ (l:List TokL) (o:List Tx) (k:Nat),wrL l = some o → ktL (zmX l o k) = ktL l:=fun l o k h=>by
  refine List.ext_getElem (by rw [List.length_map,List.length_map,(zfO l o k h).1]) fun j h1 h2=>?_
  rw [List.length_map] at h1 h2
  have hg:=(zjr l o k j h h2).1
  rw [List.getElem_map,List.getElem_map]
  simp only [List.getD,List.getElem?_eq_getElem h1,List.getElem?_eq_getElem h2,Option.getD_some] at hg
  rw [hg]
theorem zgk {Y:Int} {i:InstL} (hf:za7 Y i = 0) (hu:i.U32):∃ o,wrL (zhT i) = some o ∧ zeE Y i = (Lib.join o [32],0) ∧ za4 (Lib.join o [32]) Y = (i,true,(0,0)):=by
  obtain ⟨o,ho⟩:=zxN hf hu
  refine ⟨o,ho,?_,?_⟩
  · unfold zeE; rw [if_neg (by rw [hf]; simp),(zd3 (zkJ ho)).1]
  · unfold za4
    rw [zgn ho,if_neg (by simp)]
    exact ztL (zp5 _ _ _ ho) hf hu
abbrev no10 (c:UInt8):Bool:=decide (c.toNat ≠ 10)
theorem zp3 {s:Tx} (h:zcj s = s):s.all no10 = true:=by
  have h1:s.all zkm = true:=by
    rw [← h]; unfold zcj; simp [List.all_takeWhile]
  rw [List.all_eq_true] at h1 ⊢
  intro c hc
  have h2:=h1 c hc
  simp only [zkm,zgI,zej,Bool.or_eq_true,decide_eq_true_eq] at h2
  exact Dt O
theorem zwG {s:Tx} (h:s.all zej = true):s.all no10 = true:=by
  rw [List.all_eq_true] at h ⊢
  intro c hc
  have h2:=h c hc
  simp only [zej,decide_eq_true_eq] at h2
  exact Dt O
theorem zxM {t:TokL} {x:Tx} (h:wrT t = some x):x.all no10 = true:=by
  unfold wrT at h
  split at h
  · split at h
    · rename_i h1; cases h; exact zp3 h1.2.2
    · cases h
  split at h
  · split at h
    · rename_i h1
      cases h
      obtain ⟨n,hn⟩:=Option.isSome_iff_exists.1 h1
      rw [List.all_cons,zwG (zhp hn).2]; rfl
    · cases h
  split at h
  · split at h
    · rename_i h1
      cases h
      obtain ⟨h2,h3,h4⟩:=znd h1
      have h5:=zp3 h4
      cases hx:t.text with
      | nil=>rfl
      | cons c r =>
        rw [hx] at h3 h5
        have h6:(c :: r).drop 1 = r:=rfl
        rw [h6] at h5
        rw [List.all_cons,h5]
        have h7:zej c = true ∨ c.toNat = 45:=h3
        simp only [zej,decide_eq_true_eq] at h7
        simp only [Bool.and_true,decide_eq_true_eq]
        omega
    · cases h
  split at h
  · cases h
    have h1:=zto t.text
    rw [List.all_eq_true] at h1 ⊢
    intro c hc
    have h2:=of_decide_eq_true (h1 c hc)
    exact Dt O
  split at h
  · split at h
    · cases h; rfl
    · cases h
  · cases h
theorem zsP {p:UInt8 → Bool} (hp:∀ t x,wrT t = some x → x.all p = true):∀ (l:List TokL) (o:List Tx),wrL l = some o → ∀ x ∈ o,x.all p = true
  | [],o,h,x,hx=>by cases h; cases hx
  | t :: r, o, h, x, hx => by
    unfold wrL at h
    cases ht:wrT t with
    | none=>rw [ht] at h; cases h
    | some a =>
      cases hr:wrL r with
      | none=>rw [ht,hr] at h; cases h
      | some b =>
        rw [ht,hr] at h
        cases h
        rcases List.mem_cons.1 hx with rfl | hx
        · exact hp _ _ ht
        · exact zsP hp r b hr x hx
theorem zv8 {p:UInt8 → Bool} (h32:p 32 = true):∀ o:List Tx,(∀ x ∈ o,x.all p = true) → (Lib.join o [32]).all p = true
  | [],_=>by rw [Lib.join_nil]; rfl
  | x :: r, h => by
    rw [Lib.join_cons,List.all_append,h x (.head _),Bool.true_and,List.all_eq_true]
    intro c hc
    unfold Lib.joinTail at hc
    obtain ⟨y,hy,hcy⟩:=List.mem_flatten.1 hc
    obtain ⟨z,hz,rfl⟩:=List.mem_map.1 hy
    rcases List.mem_append.1 hcy with h1 | h1
    · obtain rfl:=List.mem_singleton.1 h1; exact h32
    · exact List.all_eq_true.1 (h z (.tail _ hz)) c h1
theorem zht {l:List TokL} {o:List Tx} (h:wrL l = some o):(Lib.join o [32]).all no10 = true:=zv8 De o (zsP (fun t x=>zxM) l o h)
theorem ziQ {x y:Tx} (h:x.all no10 = true):lnF (x ++ 10 :: y) = x :: lnF y:=by
  have hk:x.length < (x ++ 10 :: y).length:=by rw [List.length_append,List.length_cons]; omega
  have hc:=zun (r:=x ++ 10 :: y) (k:=x.length) hk (fun j hj=>by rw [ziY hj]; exact of_decide_eq_true (zpl h hj)) (by simp [List.getD])
  rw [ziR (by omega),hc.1,hc.2]
  rw [List.take_left,show x.length + 1 = (x ++ [10]).length by simp,show x ++ 10 :: y = (x ++ [10]) ++ y by simp,List.drop_left]
def ziA (gn bd:Int):List TokL:=[⟨1,modW,0⟩,⟨3,zdW gn,0⟩,⟨3,zdW bd,0⟩]
def zcH (bd:Int) (l:List InstL):Tx:=l.flatMap fun i=>(zeE bd i).1 ++ [10]
def zcV (gn bd:Int) (l:List InstL):Tx × (Int × Int):=if (zbl bd l).1 ≠ 0 then ([],zbl bd l) else (wrS (ziA gn bd) ++ 10 :: zcH bd l,(0,0))
section
variable {gn bd:Int}
theorem zmg {n:Int} (h0:0 ≤ n) (h1:n < 4294967296):za3 (zdW n) = (n,0):=by
  have hp:=zgi (ze3 (u:=n.toNat) O)
  rw [show ((n.toNat:Nat):Int) = n by omega] at hp; exact hp
theorem znu (hg:0 ≤ gn ∧ gn < 4294967296) (hb:1 ≤ bd ∧ bd ≤ 65536):∃ o,wrL (ziA gn bd) = some o ∧ wrS (ziA gn bd) = Lib.join o [32] ∧ zcY (Lib.join o [32]) = ((gn,bd),(0,0)) ∧ (zbn (Lib.join o [32])).1.length = 3:=by
  have ho:wrL (ziA gn bd) = some [modW,zdW gn,zdW bd]:=za8 (zfH De) (za8 (zgC hg.1 hg.2 0) (za8 (zgC O O 0) rfl))
  refine ⟨_,ho,(zd3 (zkJ ho)).1,?_,?_⟩
  · have hkt := zp5 _ _ 0 ho
    unfold zcY
    rw [zgn ho,if_neg (by simp)]
    obtain ⟨t0,l,hl,k0,x0,hkt⟩:=zeF (k:=1) (x:=modW) (z:=_) hkt
    obtain ⟨t1,l,rfl,k1,x1,hkt⟩:=zeF (k:=3) (x:=zdW gn) (z:=_) hkt
    obtain ⟨t2,l,rfl,k2,x2,hkt⟩:=zeF (k:=3) (x:=zdW bd) (z:=_) hkt
    cases l with
    | cons t r=>cases hkt
    | nil =>
      dsimp only
      rw [hl]
      have e0:([t0,t1,t2].getD 0 zaM) = t0:=rfl
      have e1:([t0,t1,t2].getD 1 zaM) = t1:=rfl
      have e2:([t0,t1,t2].getD 2 zaM) = t2:=rfl
      rw [zky (by rw [e0]; exact k0) (by rw [e0]; exact x0) (by simp),e1,e2,k1,k2,x1,x2,zmg hg.1 hg.2,zmg (n:=bd) (by omega) (by omega),if_neg (by simp),if_neg (by simp),if_neg (by simp),if_neg (by simp),if_neg (by simp),if_neg (by simp; omega),if_neg (by simp)]
  · rw [zgn ho]; exact (zfO _ _ 0 ho).1
theorem zm9:∀ (l:List InstL) (n w k:Nat) (m:List InstL),0 < w → (zcl bd w k l).1 = 0 → (∀ i ∈ l,i.U32) → zkY n (lnF (zcH bd l)) ⟨gn,bd,w,m⟩ = ((gn,bd,m ++ l),(0,0))
  | [], n, w, k, m, hw, _, _ => by
    rw [show zcH bd [] = [] from rfl,zh5 (r:=([]:Tx)) rfl,zkY,if_neg (by dsimp only; omega),List.append_nil]
  | i :: l, n, w, k, m, hw, hs, hu => by
    unfold zcl at hs
    split at hs
    · rename_i h; exact absurd hs h
    rename_i hf
    split at hs
    · cases hs
    rename_i hr
    obtain ⟨o,ho,hp,hl⟩:=zgk (Nn hf) (hu i (.head _))
    have e:zcH bd (i :: l) = Lib.join o [32] ++ 10 :: zcH bd l:=by
      unfold zcH; rw [List.flatMap_cons,hp]; simp
    rw [e,ziQ (zht ho),zkY]
    have V:zlT (Lib.join o [32]) ⟨gn,bd,w,m⟩ = .ok ⟨gn,bd,w + zbY (zaW i.op) i.args,m ++ [i]⟩:=by
      unfold zlT
      dsimp only
      rw [if_neg (by omega),hl]
      dsimp only
      rw [if_neg (by simp),if_neg (by simp),if_neg hr]
    rw [V]
    dsimp only
    rw [zm9 l (n + 1) _ (k + 1) _ (by omega) hs (fun j hj=>hu j (.tail _ hj)),List.append_assoc]; rfl
theorem zs8 {l:List InstL} (hs:(zbl bd l).1 = 0) (hg:0 ≤ gn ∧ gn < 4294967296) (hu:∀ i ∈ l,i.U32) (hb0:0 ≤ bd) (ht:(zcV gn bd l).1.length ≤ 16777216):(zcV gn bd l).2 = (0,0) ∧ zet (zcV gn bd l).1 = ((gn,bd,l),(0,0)):=by
  have hbd:1 ≤ bd ∧ bd ≤ 65536:=by
    unfold zbl at hs
    split at hs
    · cases hs
    · omega
  have hsg:(zcl bd 5 0 l).1 = 0:=by
    unfold zbl at hs
    split at hs
    · cases hs
    · exact hs
  obtain ⟨o,ho,hw,hh,hn⟩:=znu hg hbd
  have e:zcV gn bd l = (Lib.join o [32] ++ 10 :: zcH bd l,(0,0)):=by
    unfold zcV; rw [if_neg (by rw [hs]; simp),hw]
  rw [e] at ht ⊢
  refine ⟨rfl,?_⟩
  unfold zet
  rw [if_neg (by dsimp only at ht ⊢; omega)]
  dsimp only
  rw [ziQ (zht ho),zkY]
  have V:zlT (Lib.join o [32]) ⟨0,0,0,[]⟩ = .ok ⟨gn,bd,5,[]⟩:=by
    unfold zlT
    rw [if_pos rfl,if_neg (by rw [hn]; simp),hh,if_neg (by simp)]
  rw [V]
  exact zm9 l 1 5 0 [] O hsg hu
end
def zxr (c:Int):Int:=if c = 105 then -9 else if c = 100 then 1 else 0
def zp2 (fm:FormL):Nat → Nat → Int
  | _,0=>0
  | k,n + 1=>zxr (zaJ fm k) + zp2 fm (k + 1) n
theorem ztE:refT.all (fun f=>decide ((f.name.length:Int) + 1 + (if f.res = true then 9 else 0) + (if f.ty = true then 7 else 0) + zp2 f 0 f.fixed.length ≤ 16 * (1 + ((b2n f.ty:Int) + b2n f.res))) && f.rest.all (fun c=>decide (c.toNat ≠ 100))) = true:=by decide +kernel
theorem zrY:namesL.all (fun x=>decide ((x.name.length:Int) + 1 ≤ 16 + (if x.letter = 100 then 1 else 0) ∧ x.letter ≠ 105)) = true:=by decide +kernel
theorem zp1 (fm:FormL):∀ (a b k:Nat),zp2 fm k (a + b) = zp2 fm k a + zp2 fm (k + a) b
  | 0,b,k=>by rw [Nat.zero_add,zp2,Nat.add_zero]; omega
  | a + 1, b, k => by
    rw [show a + 1 + b = (a + b) + 1 by omega,zp2,zp2,zp1 fm a b (k + 1),show k + 1 + a = k + (a + 1) by omega]; omega
theorem zmN {fm:FormL} (hr:fm.rest.all (fun c=>decide (c.toNat ≠ 100)) = true):∀ (n k:Nat),fm.fixed.length ≤ k → zp2 fm k n ≤ 0
  | 0,k,_=>Int.le_refl _
  | n + 1, k, hk => by
    have ih:=zmN hr n (k + 1) O
    have hl:zaJ fm k ≠ 100:=by
      unfold zaJ
      rw [if_neg (by omega),if_neg (by omega)]
      unfold zix
      split
      · decide
      · rename_i h
        have hne:fm.rest ≠ []:=fun e=>h (.inr (.inl e))
        have hp:=List.length_pos_iff.2 hne
        have hm:=Int.emod_lt_of_pos ((k:Int) - (fm.fixed.length:Int)) (show (0:Int) < fm.rest.length by omega)
        have hg:=Int.emod_nonneg ((k:Int) - (fm.fixed.length:Int)) (show (fm.rest.length:Int) ≠ 0 by omega)
        have hi:(((k:Int) - fm.fixed.length) % fm.rest.length).toNat < fm.rest.length:=by omega
        have:=of_decide_eq_true (zpl hr hi)
        omega
    have:zxr (zaJ fm k) ≤ 0:=by
      unfold zxr
      split
      · omega
      · first | omega | (rw [if_neg hl]; omega)
    rw [zp2]; omega
theorem zjW {n:Int} {k:Nat} (h0:0 ≤ n) (h:n.toNat < 10 ^ (k + 1)):(zdW n).length ≤ k + 1:=by
  unfold zdW; rw [zmh]
  exact zgj (k:=k) h
theorem zyG {c Y:Int} {a:ArgP} {x:Tx} (h:zbv c a Y = 0) (hk:zbR c ≠ 0) (h0:0 ≤ a.n) (h1:a.n < 4294967296) (hb:Y ≤ 65536) (hx:wrT (zg7 c a) = some x):(x.length:Int) + 1 ≤ 16 * zaT a + zxr c:=by
  obtain ⟨k,n,s⟩:=a
  obtain ⟨hc,hkd,h3,hs,hid,hen,hz⟩:=zcw h
  dsimp only at hkd h3 hs hid hen hz h0 h1
  have hd:(zdW n).length ≤ 10:=zjW (k:=9) h0 O
  unfold zg7 at hx
  unfold zaT
  dsimp only at hx ⊢
  by_cases hk1:k = 1
  · rw [if_pos hk1, zq6 h0 h1] at hx; cases hx
    have h5:(zdW n).length ≤ 5:=zjW (k:=4) h0 (by have:=(zxn (hid hk1)).2; omega)
    rw [if_neg (by omega),List.length_cons]
    have hc5:c = 105:=by
      unfold zbR at hkd
      split at hkd
      · assumption
      · repeat (first | (split at hkd) | omega)
    unfold zxr; rw [if_pos hc5]; omega
  rw [if_neg hk1] at hx
  by_cases hk2:k = 2
  · rw [if_pos hk2, zgC h0 h1] at hx; cases hx
    have hc5:c ≠ 105:=fun e=>by subst e; rw [hk2] at hkd; exact absurd hkd (by decide)
    rw [if_neg (by omega)]; unfold zxr; rw [if_neg hc5]; split <;> omega
  rw [if_neg hk2] at hx
  by_cases hk3:k = 3
  · rw [if_pos hk3, zpT rfl] at hx; cases hx
    have:=zm3 s
    have hc5:c ≠ 105:=fun e=>by subst e; rw [hk3] at hkd; exact absurd hkd (by decide)
    rw [if_pos hk3]; dsimp only
    unfold zxr; rw [if_neg hc5]; split <;> omega
  rw [if_neg hk3] at hx
  have hkb:=zqp c
  have hk4:k = 4:=by omega
  have he:=hen hk4
  unfold zgX at he
  cases hf:namesL.find? (enN c n) with
  | none=>rw [hf,if_neg (by simp)] at he; cases he
  | some y =>
    rw [hf] at hx
    have hm:=List.mem_of_find?_eq_some hf
    have hw:wrT ⟨1,((some y).getD zdq).name,0⟩ = some y.name:=zfH (List.all_eq_true.1 zk9 y hm)
    rw [hw] at hx; cases hx
    have h5:=of_decide_eq_true (List.all_eq_true.1 zrY y hm)
    have hy:=(znH hf).1
    rw [hy] at h5
    rw [if_neg hk3]; unfold zxr; rw [if_neg h5.2]; omega
theorem zqQ {op Y:Int} (hb:Y ≤ 65536):∀ (l:List ArgP) (k:Nat) (o:List Tx),zby (zaW op) Y k l = 0 → (∀ a ∈ l,0 ≤ a.n ∧ a.n < 4294967296) → wrL (zfn (zaW op) k l) = some o → (osz o:Int) ≤ 16 * (l.map zaT).sum + zp2 (zaW op) k l.length
  | [],k,o,_,_,h=>by cases h; exact Int.le_refl _
  | a :: l, k, o, hw, hn, h => by
    have h2:=zgO hw
    have hz:=zcw h2.1
    have hk:=zhk _ _ hz.1
    obtain ⟨x,hx⟩:=zxb h2.1 hk (hn a (.head _)).1 (hn a (.head _)).2
    obtain ⟨p,hp⟩:=zlA l (k + 1) h2.2 (fun b hb=>hn b (.tail _ hb))
    have e:wrL (zfn (zaW op) k (a :: l)) = some (x :: p):=za8 hx hp
    rw [e] at h; cases h
    have ih:=zqQ hb l (k + 1) p h2.2 (fun b hb=>hn b (.tail _ hb)) hp
    have h1:=zyG h2.1 hk (hn a (.head _)).1 (hn a (.head _)).2 hb hx
    rw [osz,List.map_cons,List.sum_cons,List.length_cons,zp2]; omega
theorem zwa {Y:Int} {i:InstL} {o:List Tx} (hf:za7 Y i = 0) (hu:i.U32) (hb:Y ≤ 65536) (ho:wrL (zhT i) = some o):osz o ≤ 16 * zbY (zaW i.op) i.args:=by
  obtain ⟨h1,h2,h3,h4,h5,h6⟩:=ze1 hf
  obtain ⟨fm,hfm⟩:=Option.isSome_iff_exists.1 h1
  have hD:zaW i.op = fm:=by rw [zaW,hfm]; rfl
  have hm:=(zer hfm).1
  obtain ⟨p,hp⟩:=zlA i.args 0 h4 hu.args
  have hpl:=zqQ hb i.args 0 p h4 hu.args hp
  have hw:=zfH (a:=0) (List.all_eq_true.1 zkZ fm hm)
  have hnl0:=List.all_eq_true.1 ztE fm hm
  rw [Bool.and_eq_true] at hnl0
  have hnl:=of_decide_eq_true hnl0.1
  have hfx:fm.fixed.length ≤ i.args.length:=by
    rw [hD] at h5
    exact Classical.byContradiction fun hq=>h5 (.inl O)
  have hse:zp2 fm 0 i.args.length ≤ zp2 fm 0 fm.fixed.length:=by
    have h7:=zp1 fm fm.fixed.length (i.args.length - fm.fixed.length) 0
    have h8:=zmN hnl0.2 (i.args.length - fm.fixed.length) (0 + fm.fixed.length) O
    rw [show fm.fixed.length + (i.args.length - fm.fixed.length) = i.args.length by omega] at h7
    omega
  rw [hD] at hpl
  have hty:=ziU De h2
  have hres:=ziU De h3
  unfold zhT idK at ho
  unfold zbY
  rw [hD] at ho hp hty hres ⊢
  have wty:=zq6 hu.ty.1 hu.ty.2 0
  have wres:=zq6 hu.res.1 hu.res.2 0
  have lres:fm.res = true → (zdW i.res).length ≤ 5:=fun h=>zjW (k:=4) hu.res.1 (by have:=(hres.1 h).2; omega)
  have lty:fm.ty = true → (zdW i.ty).length ≤ 5:=fun h=>zjW (k:=4) hu.ty.1 (by have:=(hty.1 h).2; omega)
  cases hr:fm.res <;> cases ht:fm.ty <;> rw [hr,ht] at hnl <;> simp only [hr,ht,if_true,if_false,Bool.false_eq_true,List.nil_append,List.cons_append,b2n] at ho hnl ⊢
  · rw [za8 hw hp] at ho; cases ho
    simp only [osz]; omega
  · rw [za8 hw (za8 wty hp)] at ho; cases ho
    have:=lty ht
    simp only [osz,List.length_cons]; omega
  · rw [za8 wres (za8 (zkK rfl rfl) (za8 hw hp))] at ho; cases ho
    have:=lres hr
    simp only [osz,List.length_cons,List.length_nil]; omega
  · rw [za8 wres (za8 (zkK rfl rfl) (za8 hw (za8 wty hp)))] at ho; cases ho
    have:=lres hr
    have:=lty ht
    simp only [osz,List.length_cons,List.length_nil]; omega
theorem zvD {i:InstL} {o:List Tx} (ho:wrL (zhT i) = some o):0 < o.length:=by
  have:=(zfO _ _ 0 ho).2
  rw [this]; unfold zhT; rw [List.length_append,List.length_cons]; omega
theorem zk1 {bd:Int} (hb:bd ≤ 65536):∀ (l:List InstL) (n k:Nat),n ≤ 1048576 → (zcl bd n k l).1 = 0 → (∀ i ∈ l,i.U32) → (zcH bd l).length + 16 * n ≤ 16777216
  | [],n,k,hn,_,_=>by show 0 + 16 * n ≤ 16777216; omega
  | i :: l, n, k, hn, hs, hu => by
    unfold zcl at hs
    split at hs
    · rename_i h; exact absurd hs h
    rename_i hf
    split at hs
    · cases hs
    rename_i hr
    obtain ⟨o,ho,hp,hl⟩:=zgk (Nn hf) (hu i (.head _))
    have e:zcH bd (i :: l) = Lib.join o [32] ++ 10 :: zcH bd l:=by
      unfold zcH; rw [List.flatMap_cons,hp]; simp
    have ih:=zk1 hb l _ (k + 1) O hs (fun j hj=>hu j (.tail _ hj))
    have h1:=zwa (Nn hf) (hu i (.head _)) hb ho
    have h2:=zqj (zvD ho)
    rw [e,List.length_append,List.length_cons]; omega
theorem zp0 {gn bd:Int} {l:List InstL} (hs:(zbl bd l).1 = 0) (hg:0 ≤ gn ∧ gn < 4294967296) (hu:∀ i ∈ l,i.U32) (hb0:0 ≤ bd):(zcV gn bd l).1.length ≤ 16777216:=by
  have hbd:(1 ≤ bd ∧ bd ≤ 65536) ∧ (zcl bd 5 0 l).1 = 0:=by
    unfold zbl at hs
    split at hs
    · cases hs
    · exact ⟨by omega,hs⟩
  have ho:wrL (ziA gn bd) = some [modW,zdW gn,zdW bd]:=za8 (zfH De) (za8 (zgC hg.1 hg.2 0) (za8 (zgC O O 0) rfl))
  have hw:=(zd3 (zkJ ho)).1
  have h1:=zk1 hbd.1.2 l 5 0 O hbd.2 hu
  have h2:=zqj (o:=[modW,zdW gn,zdW bd]) (by simp)
  have h3:(zdW gn).length ≤ 10:=zjW (k:=9) hg.1 O
  have h4:(zdW bd).length ≤ 5:=zjW (k:=4) hb0 O
  have h5:modW.length = 6:=rfl
  simp only [osz] at h2
  unfold zcV
  rw [if_neg (by rw [hs]; simp),hw]
  dsimp only
  rw [List.length_append,List.length_cons]; omega
theorem zj1 (fm:FormL):∀ (l:List ArgP) (k:Nat),(zfn fm k l).length = l.length
  | [],_=>rfl
  | a :: r,k=>by rw [zfn,List.length_cons,List.length_cons,zj1 fm r (k + 1)]
theorem zkQ {bd:Int}:∀ (l:List InstL) (n k:Nat),(zcl bd n k l).1 = 0 → ∀ i ∈ l,za7 bd i = 0
  | [],_,_,_,i,hi=>by cases hi
  | i :: l, n, k, h, j, hj => by
    unfold zcl at h
    split at h
    · rename_i q; exact absurd h q
    rename_i h1
    split at h
    · cases h
    rcases List.mem_cons.1 hj with rfl | hj
    · exact Nn h1
    · exact zkQ l _ _ h j hj
theorem zgb {bd:Int} {l:List InstL} (hb:0 ≤ bd) (h:(zbl bd l).1 = 0):(1 ≤ bd ∧ bd ≤ 65536) ∧ ∀ i ∈ l,za7 bd i = 0:=by
  unfold zbl at h
  split at h
  · cases h
  · exact ⟨by omega,zkQ l _ _ h⟩
theorem zmK {gn bd:Int} {l:List InstL} (hs:(zbl bd l).1 = 0) (hg:0 ≤ gn ∧ gn < 4294967296) (hu:∀ i ∈ l,i.U32) (hb0:0 ≤ bd):(zcV gn bd l).2 = (0,0) ∧ (zcV gn bd l).1.length ≤ 16777216 ∧ zet (zcV gn bd l).1 = ((gn,bd,l),(0,0)):=by
  have hl:=zp0 hs hg hu hb0
  have hr:=zs8 hs hg hu hb0 hl
  exact ⟨hr.1,hl,hr.2⟩
theorem zvH {gn bd:Int} {l:List InstL} (hs:(zbl bd l).1 ≠ 0):zcV gn bd l = ([],zbl bd l):=if_pos hs
theorem zlk (fm:FormL):∀ (l:List ArgP) (k i:Nat),i < l.length → zfn fm k (l.take (i + 1)) = zfn fm k (l.take i) ++ [zg7 (zaJ fm ((k + i:Nat):Int)) (l.getD i zeroA)]
  | [],_,i,h=>by cases h
  | a :: r,k,0,_=>by simp [zfn]
  | a :: r, k, i + 1, h => by
    rw [List.take_succ_cons,List.take_succ_cons,zfn,zfn,zlk fm r (k + 1) i (by simpa using h),show k + 1 + i = k + (i + 1) by omega]
    simp
def zoH (i:InstL):List TokL:=if (zaW i.op).res = true then [idK i.res,⟨5,[61],0⟩] else []
def zrc (i:InstL):List TokL:=zoH i ++ (⟨1,(zaW i.op).name,0⟩ :: (if (zaW i.op).ty = true then [idK i.ty] else []))
theorem zkN (i:InstL):zhT i = zrc i ++ zfn (zaW i.op) 0 i.args:=by
  unfold zhT zrc zoH; simp
theorem ztD:refT.all (fun f=>decide (f.name.length ≤ 60)) = true:=by decide +kernel
theorem zt8:namesL.all (fun x=>decide (x.name.length ≤ 60)) = true:=by decide +kernel
theorem ztm (op:Int):(zaW op).name.length ≤ 60:=by
  unfold zaW
  cases h:zc6 op with
  | none=>exact Nat.zero_le _
  | some f=>exact of_decide_eq_true (List.all_eq_true.1 ztD f (zer h).1)
theorem zt9 (c n:Int):((namesL.find? (enN c n)).getD zdq).name.length ≤ 60:=by
  cases h:namesL.find? (enN c n) with
  | none=>exact Nat.zero_le _
  | some x=>exact of_decide_eq_true (List.all_eq_true.1 zt8 x (List.mem_of_find?_eq_some h))
theorem zg0 {n:Int} (h0:0 ≤ n) (h1:n < 4294967296):(zdW n).length ≤ 10:=zjW (k:=9) h0 O
theorem zwU {c:Int} {a:ArgP} (h0:0 ≤ a.n) (h1:a.n < 4294967296):4 * (zg7 c a).text.length + 3 ≤ 300 + 16 * zaT a:=by
  have hd:=zg0 h0 h1
  have he:=zt9 c a.n
  unfold zg7 zaT
  split
  · dsimp only; omega
  split
  · dsimp only; omega
  split
  · dsimp only; omega
  · dsimp only; omega
theorem zn0 {fm:FormL}:∀ (l:List ArgP) (k:Nat),(∀ a ∈ l,0 ≤ a.n ∧ a.n < 4294967296) → wsz (zfn fm k l) ≤ 316 * (l.map zaT).sum
  | [],_,_=>Nat.zero_le _
  | a :: r, k, h => by
    have h1:=zwU (c:=zaJ fm (k:Int)) (h a (.head _)).1 (h a (.head _)).2
    have h2:=zn0 (fm:=fm) r (k + 1) (fun b hb=>h b (.tail _ hb))
    have h3:1 ≤ zaT a:=by unfold zaT; split <;> omega
    rw [zfn,wsz,List.map_cons,List.sum_cons]; omega
theorem zox:∀ (l m:List TokL),wsz (l ++ m) = wsz l + wsz m
  | [],m=>by rw [List.nil_append,wsz,Nat.zero_add]
  | t :: r,m=>by rw [List.cons_append,wsz,wsz,zox r m]; omega
theorem zpY {i:InstL} (hu:i.U32):wsz (zrc i) ≤ 500 ∧ (zrc i).length ≤ 4:=by
  have h1:=zg0 hu.ty.1 hu.ty.2
  have h2:=zg0 hu.res.1 hu.res.2
  have h3:=ztm i.op
  unfold zrc zoH idK
  constructor
  · rw [zox]
    have e1:wsz (if (zaW i.op).res = true then [⟨2,zdW i.res,0⟩,⟨5,[61],0⟩] else []) ≤ 60:=by
      split
      · simp only [wsz,List.length_cons,List.length_nil]; omega
      · exact Nat.zero_le _
    have e2:wsz (if (zaW i.op).ty = true then [⟨2,zdW i.ty,0⟩] else []) ≤ 60:=by
      split
      · simp only [wsz]; omega
      · exact Nat.zero_le _
    rw [wsz]; dsimp only; omega
  · rw [List.length_append, List.length_cons]
    split <;> split <;> simp
theorem zvC {i:InstL} (hu:i.U32):wsz (zhT i) ≤ 500 + 316 * (i.args.map zaT).sum ∧ (zhT i).length ≤ 4 + i.args.length:=by
  have h1:=zpY hu
  have h2:=zn0 (fm:=zaW i.op) i.args 0 hu.args
  rw [zkN,zox,List.length_append,zj1]
  omega
theorem zkM {i:InstL} (hu:i.U32) (hs:(i.args.map zaT).sum ≤ 900000000):wsz (zhT i) ≤ 1099511627776 ∧ (zhT i).length ≤ 1099511627776:=by
  have h1:=zvC hu
  have h2:=zh7 i.args
  omega
theorem zh1 {bd:Int} {i:InstL} (hf:za7 bd i = 0) (hu:i.U32):wrE (zhT i) = 0 ∧ zeE bd i = (wrS (zhT i),0):=by
  obtain ⟨o,ho,_,_⟩:=zgk hf hu
  refine ⟨(zd3 (zkJ ho)).2,?_⟩
  unfold zeE; rw [if_neg (by rw [hf]; simp)]
theorem zo3 {bd:Int} {l:List InstL} {i:Nat} {y:InstL} (hi:l[i]? = some y):zcH bd (l.take (i + 1)) = zcH bd (l.take i) ++ ((zeE bd y).1 ++ [10]):=by
  unfold zcH
  rw [List.take_add_one,hi,List.flatMap_append]; simp
theorem zo2 {bd:Int} (l:List InstL) (i:Nat):(zcH bd (l.take i)).length ≤ (zcH bd l).length:=by
  conv=>rhs; rw [← List.take_append_drop i l]
  unfold zcH; rw [List.flatMap_append,List.length_append]; omega
def zfJ (gn bd:Int) (l:List InstL) (i:Nat):Tx:=wrS (ziA gn bd) ++ 10 :: zcH bd (l.take i)
section
variable {gn bd:Int} {l:List InstL}
theorem zjh:zfJ gn bd l 0 = wrS (ziA gn bd) ++ [10]:=rfl
theorem zrg {i:Nat} {y:InstL} (hi:l[i]? = some y):zfJ gn bd l (i + 1) = zfJ gn bd l i ++ ((zeE bd y).1 ++ [10]):=by
  unfold zfJ; rw [zo3 hi]; simp
theorem zmL (hs:(zbl bd l).1 = 0):zcV gn bd l = (zfJ gn bd l l.length,(0,0)):=by
  unfold zcV zfJ; rw [if_neg (by rw [hs]; simp),List.take_length]
theorem zs9 (hs:(zbl bd l).1 = 0) (hg:0 ≤ gn ∧ gn < 4294967296) (hu:∀ i ∈ l,i.U32) (hb0:0 ≤ bd) (i:Nat):(zfJ gn bd l i).length ≤ 16777216:=by
  have h:=zp0 hs hg hu hb0
  rw [zmL hs] at h
  have h2:=zo2 (bd:=bd) l i
  unfold zfJ at h ⊢
  rw [List.take_length] at h
  simp only [List.length_append,List.length_cons] at h ⊢
  omega
theorem zwe (hg:0 ≤ gn ∧ gn < 4294967296) (hb:0 ≤ bd ∧ bd < 4294967296):wsz (ziA gn bd) ≤ 1000:=by
  have h1:=zg0 hg.1 hg.2
  have h2:=zg0 hb.1 hb.2
  unfold ziA
  simp only [wsz,modW,List.length_cons,List.length_nil]; omega
end
open Go.RowKit Go.ChangeShapes Go.WideShapes Go.ChangeAt
section
variable {P:Program} {ty:TypeId} {ρ:Operand → Value} {w0 w:World} {C:Value → World → Prop} {M:Nat → Prop} {L L' D:List Res}
variable {T U e:TypeId} {de:TypeDesc} {sz bytes sz2 b2 es eb:Nat} {zs ez z2:List Value} {ao:Option Addr} {n cap:Nat} {xs:List Value}
theorem zmO (s:List UInt8):Lib.strCells ⟨s.toArray⟩ = s.flatMap byC:=by
  rw [zgp]; unfold Lib.strCells; simp
def ByteF (P:Program) (e:TypeId):Prop:=(P.info? e).map (fun i=>(i.zero,i.size,i.bytes)) = some (some (.int .u8 0),1,1)
theorem ByteF.parts (h:ByteF P e):∃ i,P.info? e = some i ∧ i.zero = some (.int .u8 0) ∧ i.size = 1 ∧ i.bytes = 1:=by
  obtain ⟨i,hi,h2⟩:=Option.map_eq_some_iff.1 h
  injection h2 with h3 h4
  injection h4 with h5 h6
  exact ⟨i,hi,h3,h5,h6⟩
theorem zmv {x y:Operand} {s:List UInt8} (V:St w0 M L D w) (hT:TyF P T (.slice e) sz bytes zs) (hU:TyF P U .string sz2 b2 z2) (he:ByteF P e)
    (hr:Rem (Res.sl ao n cap e 1 xs) L L') (hx:ρ x = .slice ao n cap) (hy:ρ y = str s) (hb:n + s.length ≤ 140737488355328)
    (h:∀ (w':World) (ao':Option Addr) (cap':Nat),St w0 M (Res.sl ao' (n + s.length) cap' e 1 (xs ++ s.flatMap byC) :: L') D w' → C (.slice ao' (n + s.length) cap') w') :
    Op1 P (.call ⟨.builtin .append,#[x,y],#[T,U]⟩) ty ρ w C:=by
  obtain ⟨i,h1,h4,h2,h3⟩:=he.parts
  have hown:w.ownsRow 0 e 1 (.slice ao n cap) n xs:=V.hL _ hr.mem
  have hs:(⟨s.toArray⟩:ByteArray).size = s.length:=by simp [ByteArray.size]
  have hml:=zeT
  have key:∃ v' w',(Builtin.append_ #[T,U] ty #[.slice ao n cap,str s]).run P w = .ok v' w' ∧ w'.ownsRow 0 e 1 v' (n + s.length) (xs ++ s.flatMap byC) ∧ w.grownBy w' (Value.slice ao n cap).ownBlock ∧
      ∀ k,v'.ownBlock = some k → (Value.slice ao n cap).ownBlock = some k ∨ w.heap.size ≤ k:=by
    rw [← zmO]
    rcases hown.2 with ⟨hv,h0⟩ | ⟨g,cc,cur,hv,hb0,hg,hnc,hcm,hcs,htake⟩
    · obtain ⟨v', w', r1, r2, r3, _⟩ := Lib.run_append_own_string w w.heap.size T U ty e i hT.und hU.und h1 h4 h2 h3 (.slice ao n cap) n xs ⟨hown.1, .inl ⟨hv, h0⟩⟩ ⟨s.toArray⟩ (by rw [hs]; omega) (by rw [hs]; exact hb) (Nat.le_refl _)
      rw [hs] at r2
      exact ⟨v',w',r1,⟨r2.1,r2.2.imp id fun ⟨g,cc,cur,e1,_,e2⟩=>⟨g,cc,cur,e1,Nat.zero_le _,e2⟩⟩,r3,fun k hk=>.inr (r2.lt k hk).1⟩
    · cases hv
      have hxl:xs.length = n:=by simpa using hown.1
      obtain ⟨v',w',r1,r2,r3,_⟩:=Lib.run_append_own_string w 0 T U ty e i hT.und hU.und h1 h4 h2 h3 _ n xs hown ⟨s.toArray⟩ (by rw [hs]; omega) (by rw [hs]; exact hb) (Nat.zero_le _)
      rw [hs] at r2
      by_cases hroom:n + s.length ≤ cap
      · have r4 := Lib.run_append_room_string (P := P) w T U ty e i hT.und hU.und h1 h2 g n cap cur hg ⟨s.toArray⟩ (by rw [hs]; exact hroom) (by rw [hs, hcs]; omega)
        rw [r1] at r4
        injection r4 with e1 e2
        refine ⟨v',w',r1,r2,r3,fun k hk=>.inl ?_⟩
        rw [e1] at hk
        exact hk
      · have r4 := Lib.run_append_grow_string (P := P) w T U ty e i (.int .u8 0) hT.und hU.und h1 h4 ⟨g, 0, none⟩ n cap xs (by rw [h2]; simpa using hxl) (hown.cells (g := g) rfl) ⟨s.toArray⟩ (by rw [hs]; omega) (by rw [hs]; omega) (by rw [h3, hs]; exact growslice_fits (by omega) (by omega))
        rw [r1] at r4
        injection r4 with e1 e2
        refine ⟨v',w',r1,r2,r3,fun k hk=>.inr ?_⟩
        rw [e1] at hk
        exact Nat.le_of_eq (Option.some.inj hk)
  obtain ⟨v',w',hrun,hown',hg,hblk⟩:=key
  have hshape:∃ ao' cap',v' = .slice ao' (n + s.length) cap':=by
    rcases hown'.2 with ⟨hv,h0⟩ | ⟨g,cc,cur,hv,_⟩
    · exact ⟨none,0,by rw [hv,h0]⟩
    · exact ⟨_,_,hv⟩
  obtain ⟨ao',cap',rfl⟩:=hshape
  refine zcz (args:=[x,y]) (v:=.slice ao' (n + s.length) cap') (w':=w') (fun cs=>?_) (h w' ao' cap' ?_)
  · simp only [List.map_cons, List.map_nil, hx, hy]
    simp [Go.builtin,hrun]
  · exact (V.front hr).upd .here ⟨hg.os,hg.tape,hg.output,hg.size,fun k hk hne=>hg.block k hk (fun e=>hne e.symm)⟩ hown' hblk
theorem zmW {b:Nat} {B:TypeId} {vs:List Value} (h:(Res.row b B vs).holds w):w.shape? b = some (B,vs.length):=by
  have h':w.heap[b]? = some (.cells vs.toArray B (0,0)):=h
  simp [World.shape?,h']
theorem zoj {x:Operand} {S D0 t B:TypeId} {dt:TypeDesc} {b off st bt:Nat} {zt vs:List Value} (hS:TyF P S (.pointer t) sz bytes zs) (hD:TyF P D0 .unsafePointer sz2 b2 z2) (ht:TyF P t dt st bt zt) (hj:Nat.ble 1 st = true) (hx:ρ x = .pointer (some ⟨b,off,none⟩))
    (hb:(Res.row b B vs).holds w) (ho:off < vs.length) (h:C (.pointer (some ⟨b,off,none⟩)) w):Op1 P (.convert S D0 x) ty ρ w C:=by
  obtain ⟨i,z,h1,h2,_⟩:=ht.info
  have hj':=Nat.le_of_ble_eq_true hj
  refine zbT (v:=.pointer (some ⟨b,off,none⟩)) (w':=w) ?_ h
  simp only [execOp,hx,Sem.run_bind]
  rw [Lib.run_to_unsafe (P:=P) (w:=w) ⟨b,off,none⟩ hS.und hD.und h1 (by omega) (zmW hb) ho]
  simp [Result.andThen]
theorem zkG {x:Operand} {S D0 u B:TypeId} {du:TypeDesc} {b off su bu:Nat} {zu vs:List Value} (hS:TyF P S .unsafePointer sz bytes zs) (hD:TyF P D0 (.pointer u) sz2 b2 z2) (hu:TyF P u du su bu zu) (hx:ρ x = .pointer (some ⟨b,off,none⟩))
    (hb:(Res.row b B vs).holds w) {m:Nat} (hm:vs.length = m) (hl:liesAt P P.depth B (m / P.cellsOf B) off u 1 = true) (h:C (.pointer (some ⟨b,off,none⟩)) w):Op1 P (.convert S D0 x) ty ρ w C:=by
  subst hm
  obtain ⟨i,z,h1,h2,_⟩:=hu.info
  refine zbT (v:=.pointer (some ⟨b,off,none⟩)) (w':=w) ?_ h
  simp only [execOp,hx,Sem.run_bind]
  rw [Lib.run_from_unsafe (P:=P) (w:=w) ⟨b,off,none⟩ hS.und hD.und h1 (zmW hb) hl]
  simp [Result.andThen]
theorem zkI {g : FuncId} {fn : Func} {x : Value} (hf : P.funcs[g]? = some fn) (hname : (fn.name == "runtime.NumGoroutine") = false) (hb : fn.body.isNone = true) (hn : Extern.findNext fn = none) (he : Extern.find fn = some Extern.AbiNoEscape.same) (h : C x w) : CallV P (.func (.func g) #[] #[]) [x] w C := by
  refine Inv.value (v:=x) (w':=w) ?_ h
  have:=run_callFunc_extern hf hname hb hn he #[x] w
  rw [Lib.run_noEscape] at this
  simpa [Deferred.ofValue,invoke,Sem.run_bind,Result.andThen] using this
theorem zon {g : FuncId} {fn : Func} {a1 : Operand} {x : Value} {tys : Array TypeId} (hf : P.funcs[g]? = some fn) (hname : (fn.name == "runtime.NumGoroutine") = false) (hb : fn.body.isNone = true) (hn : Extern.findNext fn = none) (he : Extern.find fn = some Extern.AbiNoEscape.same)
    (hp:ρ (.func g) = .func (.func g) #[] #[]) (h1:ρ a1 = x) (h:C x w):Op1 P (.call ⟨.value (.func g),#[a1],tys⟩) ty ρ w C :=
  ze7 (args:=[a1]) (vs:=[x]) hp (by simp [h1]) (zkI hf hname hb hn he h)
theorem zt6 (hT:TyF P T (.pointer e) sz bytes zs):(Op.equal T (.pointer none) (.pointer none)).run P w = .ok true w:=by
  show (Op.equalIn (9999 + 1) T (.pointer none) (.pointer none)).run P w = _
  rw [Op.equalIn]
  simp [Sem.run_bind,hT.run_und,Result.andThen]
theorem zsD {x y:Operand} {T2:TypeId} (hT:TyF P T (.pointer e) sz bytes zs) (hx:ρ x = .pointer none) (hy:ρ y = .pointer none) (h:C (.bool true) w):Op1 P (.binOp .eql T x y T2) ty ρ w C:=by
  refine zbT (v:=.bool true) (w':=w) ?_ h
  simp only [execOp,hx,hy,eqGuard]
  simp [binOp,zt6 hT,Result.andThen]
theorem zwr {b o:Nat} (hT:TyF P T (.pointer e) sz bytes zs) (he:TyF P e de es eb ez):(Op.equal T (.pointer (some ⟨b,o,none⟩)) (.pointer (some ⟨b,o,none⟩))).run P w = .ok true w:=by
  show (Op.equalIn (9999 + 1) T (.pointer (some ⟨b,o,none⟩)) (.pointer (some ⟨b,o,none⟩))).run P w = _
  rw [Op.equalIn]
  simp [Sem.run_bind,hT.run_und,he.run_size,Result.andThen,sameAddr]
theorem zu9 {x y:Operand} {T2:TypeId} {b o:Nat} (hT:TyF P T (.pointer e) sz bytes zs) (he:TyF P e de es eb ez) (hx:ρ x = .pointer (some ⟨b,o,none⟩)) (hy:ρ y = .pointer (some ⟨b,o,none⟩)) (h:C (.bool false) w):Op1 P (.binOp .neq T x y T2) ty ρ w C:=by
  refine zbT (v:=.bool false) (w':=w) ?_ h
  simp only [execOp,hx,hy,eqGuard]
  simp [binOp,zwr hT he,Result.andThen]
theorem zkF {x:Operand} {a:Addr} {c:Nat} {tys:Array TypeId} (hx:ρ x = .slice (some a) n c) (hc:0 < c) (h:C (.pointer (some a)) w):Op1 P (.call ⟨.builtin .unsafeSliceData,#[x],tys⟩) ty ρ w C :=
  zcz (args:=[x]) (v:=.pointer (some a)) (w':=w) (fun cs=>by
    have:=Lib.run_unsafeSliceData_row (P:=P) w tys ty a n c O
    simp [hx,Go.builtin,this]) h
theorem Kept.freeze (w:World) (g n:Nat):Kept (· = g) w (w.freeze ⟨g,0,none⟩ n):=by
  unfold World.freeze
  split
  · exact Kept.refl _ _
  · exact ⟨rfl,rfl,rfl,by simp,fun k hk hne=>by
      simp only [Array.getElem?_modify]
      rw [if_neg (fun e=>hne e.symm)]⟩
theorem zms {x y:Operand} {PT IT:TypeId} {l:List UInt8} {g:Nat} {k:Int} (V:St w0 M L D w) (hr:Rem (Res.sl (some ⟨g,0,none⟩) n cap e 1 xs) L L') (hn:n = l.length) (hxs:xs = l.flatMap byC) (hP:TyF P PT (.pointer e) sz bytes zs) (hc:P.cellsOf e = 1) (h0:l ≠ [])
    (hx:ρ x = .pointer (some ⟨g,0,none⟩)) (hy:ρ y = .int .i64 k) (hk:k = l.length) (h:∀ w':World,St w0 M (Res.emp :: L') D w' → C (str l) w'):Op1 P (.call ⟨.builtin .unsafeString,#[x,y],#[PT,IT]⟩) ty ρ w C:=by
  subst hn hxs hk
  have hown:w.ownsRow 0 e 1 (.slice (some ⟨g,0,none⟩) l.length cap) l.length (l.flatMap byC):=V.hL _ hr.mem
  have hml:=zeT
  rcases hown.2 with ⟨hv,_⟩ | ⟨g',cc,cur,hv,hb0,hg,hnc,hcm,hcs,htake⟩
  · cases hv
  cases hv
  have hrun:=Lib.run_unsafeString_row (P:=P) w PT IT ty e hP.und hc g cur.size (by simp [World.shape?,hg]) l h0 (by omega) (by omega) (fun j x hx=>hown.cells (g:=g) rfl j (.int .u8 x.toNat) (by rw [zgp,List.getElem?_map,hx]; rfl))
  refine zcz (args:=[x,y]) (v:=str l) (w':=w.freeze ⟨g,0,none⟩ l.length) (fun cs=>?_) (h _ ?_)
  · simp only [List.map_cons, List.map_nil, hx, hy]
    simp [Go.builtin,hrun]; rfl
  · refine (V.front hr).upd .here ((Kept.freeze w g l.length).mono fun c _ hc => ?_) trivial (fun c hc => absurd hc id)
    subst hc; rfl
end
abbrev BdR (T e:TypeId) (b:Nat) (p:Value) (ao:Option Addr) (cp:Nat) (l:List UInt8):Res:=Res.star [Res.row b T [p,.slice ao l.length cp],Res.sl ao l.length cp e 1 (l.flatMap byC)]
theorem BdR.app {T e:TypeId} {b:Nat} {p:Value} {ao:Option Addr} {cp:Nat} {l s:List UInt8} {w0 w:World} {M:Nat → Prop} {L D:List Res}
    (h:St w0 M (Res.row b T [p,.slice ao (l.length + s.length) cp] :: Res.sl ao (l.length + s.length) cp e 1 (l.flatMap byC ++ s.flatMap byC) :: L) D w):St w0 M (BdR T e b p ao cp (l ++ s) :: L) D w:=by
  rw [← List.length_append,← List.flatMap_append] at h
  exact St.pack (L1:=[_,_]) h
abbrev VsR (T e:TypeId) (es:Nat) {α:Type} (g:α → List Value) (b:Nat) (ao:Option Addr) (cp:Nat) (l:List α):Res:=Res.star [Res.row b T [.slice ao l.length cp],Res.sl ao l.length cp e es (l.flatMap g)]
theorem VsR.app {α:Type} {g:α → List Value} {T e:TypeId} {es b:Nat} {ao:Option Addr} {cp:Nat} {l s:List α} {w0 w:World} {M:Nat → Prop} {L D:List Res}
    (h:St w0 M (Res.row b T [.slice ao (l.length + s.length) cp] :: Res.sl ao (l.length + s.length) cp e es (l.flatMap g ++ s.flatMap g) :: L) D w):St w0 M (VsR T e es g b ao cp (l ++ s) :: L) D w:=by
  rw [← List.length_append,← List.flatMap_append] at h
  exact St.pack (L1:=[_,_]) h
end Go.SK
namespace Go.SK
open Go.RowKit
section
variable {c:Int} {a:ArgP}
theorem argK1 (h:a.kind = 1):zg7 c a = ⟨2,zdW a.n,0⟩:=if_pos h
theorem argK2 (h1:¬ a.kind = 1) (h:a.kind = 2):zg7 c a = ⟨3,zdW a.n,0⟩:=by unfold zg7; rw [if_neg h1,if_pos h]
theorem argK3 (h1:¬ a.kind = 1) (h2:¬ a.kind = 2) (h:a.kind = 3):zg7 c a = ⟨4,a.s,0⟩:=by unfold zg7; rw [if_neg h1,if_neg h2,if_pos h]
theorem argK4 (h1:¬ a.kind = 1) (h2:¬ a.kind = 2) (h:¬ a.kind = 3):zg7 c a = ⟨1,((namesL.find? (enN c a.n)).getD zdq).name,0⟩:=by unfold zg7; rw [if_neg h1,if_neg h2,if_neg h]
end
section
variable {i:InstL} {fm:FormL}
theorem zvB (h:zaW i.op = fm) (hr:fm.res = true):zoH i = [idK i.res,⟨5,[61],0⟩]:=by unfold zoH; rw [h,if_pos hr]
theorem zxU (h:zaW i.op = fm) (hr:fm.res = false):zoH i = []:=by unfold zoH; rw [h,if_neg (by rw [hr]; decide)]
theorem zvE (h:zaW i.op = fm) (ht:fm.ty = true):zrc i = (zoH i ++ [⟨1,fm.name,0⟩]) ++ [idK i.ty]:=by unfold zrc; rw [h,if_pos ht]; simp
theorem zxV (h:zaW i.op = fm) (ht:fm.ty = false):zrc i = zoH i ++ [⟨1,fm.name,0⟩]:=by unfold zrc; rw [h,if_neg (by rw [ht]; decide)]
def zsF (i:InstL) (fm:FormL) (k:Nat):List TokL:=zrc i ++ zfn fm 0 (i.args.take k)
theorem zeP:zsF i fm 0 = zrc i:=by unfold zsF; simp [zfn]
theorem zs4 {k:Nat} (h:k < i.args.length):zsF i fm (k + 1) = zsF i fm k ++ [zg7 (zaJ fm (k:Int)) (i.args.getD k zeroA)]:=by
  unfold zsF
  rw [zlk fm i.args 0 k h,Nat.zero_add,List.append_assoc]
theorem zvG (h:zaW i.op = fm) {k:Nat} (hk:k = i.args.length):zsF i fm k = zhT i:=by
  subst hk; subst h
  unfold zsF
  rw [zkN,List.take_length]
end
theorem zye {l:List InstP} {i:Nat} (h:i < l.length):(l.map InstP.L)[i]? = some (l.getD i zeroI).L:=by
  rw [List.getElem?_map,List.getElem?_eq_getElem h]; simp [List.getD,h]
theorem zvF {i:InstL} {fm:FormL} {k:Nat} (hu:i.U32):(zsF i fm k).length ≤ 4 + i.args.length:=by
  have h1:=(zpY hu).2
  unfold zsF
  rw [List.length_append,zj1,List.length_take]
  omega
theorem zxf {b T n es:Nat} {xs:List Value} {w:World} (h:(Res.row b T xs).holds w) (hn:xs.length = n * es):(Res.rs (some ⟨b,0,none⟩) n es xs).holds w :=
  ⟨hn,.inr ⟨b,0,rfl,zac (n:=xs.length) h _ (by rw [List.drop_zero,List.take_length])⟩⟩
theorem zvI {gn bd:Int} {l:List InstL} {i:Nat}:zfJ gn bd l i ≠ []:=by unfold zfJ; simp
theorem zrh {gn bd:Int} {l:List InstP} {i:Nat} (hi:i < l.length) (hs:(zbl bd (l.map InstP.L)).1 = 0) (hb0:0 ≤ bd) (hu:∀ x ∈ l,x.L.U32):zfJ gn bd (l.map InstP.L) i ++ wrS (zhT (l.getD i zeroI).L) ++ [10] = zfJ gn bd (l.map InstP.L) (i + 1) ∧ wrE (zhT (l.getD i zeroI).L) = 0 ∧ zeE bd (l.getD i zeroI).L = (wrS (zhT (l.getD i zeroI).L),0):=by
  have hm:l.getD i zeroI ∈ l:=zbJ hi
  have hf:=(zgb hb0 hs).2 _ (List.mem_map_of_mem hm)
  have h2:=zh1 hf (hu _ hm)
  refine ⟨?_,h2⟩
  rw [zrg (zye hi),h2.2,List.append_assoc]
theorem zri {gn bd:Int} {l:List InstP} (hs:(zbl bd (l.map InstP.L)).1 = 0) (hg:0 ≤ gn ∧ gn < 4294967296) (hb0:0 ≤ bd) (hu:∀ x ∈ l,x.L.U32) (i:Nat):(zfJ gn bd (l.map InstP.L) i).length ≤ 16777216 :=
  zs9 hs hg (fun y hy=>by obtain ⟨x,hx,rfl⟩:=List.mem_map.1 hy; exact hu x hx) hb0 i
theorem zsZ {m:List InstP} {l:List InstL} (h:m.map InstP.L = l) (hu:∀ y ∈ l,y.U32):∀ x ∈ m,x.L.U32:=fun x hx=>hu _ (h ▸ List.mem_map_of_mem hx)
end Go.SK
namespace Go.SK
open Go Go.Proofs Go.Proofs.Tryz
theorem ty3:TyF prog 3 (.int .i64) 1 8 [.int .i64 0]:=zbp Kr Kr
theorem ent195:zaG prog 195:=⟨f195,_,func195,Kr,rfl⟩
theorem zxR:TyF prog 258 (.array 24 5) 24 24 [.int .u8 0,.int .u8 0,.int .u8 0,.int .u8 0,.int .u8 0,.int .u8 0,.int .u8 0,.int .u8 0,.int .u8 0,.int .u8 0,.int .u8 0,.int .u8 0,.int .u8 0,.int .u8 0,.int .u8 0,.int .u8 0,.int .u8 0,.int .u8 0,.int .u8 0,.int .u8 0,.int .u8 0,.int .u8 0,.int .u8 0,.int .u8 0]:=zbp Kr Kr
theorem ent196:zaG prog 196:=⟨f196,_,func196,Kr,rfl⟩
theorem ent197:zaG prog 197:=⟨f197,_,func197,Kr,rfl⟩
theorem zb9:TyF prog 38 (.slice 5) 1 24 [.slice none 0 0]:=zbp Kr Kr
theorem ent151:zaG prog 151:=⟨f151,_,func151,Kr,rfl⟩
open Go.RowKit
theorem lx_FB (b u k:Nat) (xs:List Value) (hx:xs = List.replicate 24 (Value.int .u8 0)) (w:World) (hR:(Res.row b 258 xs).holds w) (hk:k = Lib.nDigits u) (hu:u < 4294967296):Ret prog 197 #[.slice (some ⟨b,0,none⟩) k 24,.int .u64 (u:Int)] w (fun v w'=>∃ ys,(ys.drop 0).take k = (Lib.decDigits u).flatMap byC ∧ v = .tuple #[] ∧ St w (Res.row b 258 xs).foot [Res.row b 258 ys] [] w'):=by
 have h10:Lib.nDigits u ≤ 10:=zgj (u:=u) (k:=9) O
 have hsz:(Array.replicate k (0:UInt8)).size = k:=by simp
 have hpow:=Lib.lt_pow_nDigits u
 have hc:=Any.internal_strconv_formatBase10 zrH b 0 24 u (Array.replicate k (0:UInt8)) w (fun j hj=>?_) (by rw [hsz,hk]; exact hpow) (by omega) (by rw [hsz]; omega)
 ·rw [hsz] at hc
  refine Calls.mono hc ?_
  rintro e w' ⟨he,n,v',dk,rfl,hf⟩
  obtain ⟨hkp,hnew⟩:=zoT (fun (b:UInt8)=>Value.int .u8 (b.toNat:Int)) w b 0 dk n hR
  refine ⟨_,he,_,?_,rfl,(St.enter1 hR (fun d hd=>by cases hd) (fun d hd=>by cases hd)).upd .here hkp (r':=Res.row b 258 (Sort.putCells (fun (b:UInt8)=>Value.int .u8 (b.toNat:Int)) 0 dk xs.toArray).toList) ?_ (fun c hc=>.inl hc)⟩
  ·rw [List.drop_zero]; exact zyp hf hk xs (by rw [hx,List.length_replicate]; omega)
  ·show _ = some _
   rw [hnew]
 ·rw [hsz] at hj
  have hR':w.heap[b]? = some (.cells xs.toArray 258 (0,0)):=hR
  refine ⟨?_,by simp [World.frozen?,hR']⟩
  have hx2:xs[j]? = some (.int .u8 0):=by rw [hx,List.getElem?_replicate,if_pos (by omega)]
  simp [World.cell?,hR',hx2,hj]
theorem zw3 (u:Nat) (hu:u < 4294967296) (w:World) (hG:LxG.holds w):Ret prog 151 #[.int .u64 (u:Int),.int .i64 10] w (fun v w'=>v = str (Lib.decDigits u) ∧ St w NoM [] [] w'):=by
 refine zav (args:=[.int .u64 (u:Int),.int .i64 10]) func151 Z Z Z ?_
 have V:St w NoM [] [LxG] w:=St.init_Ds (by simp only [List.forall_mem_cons]; exact ⟨hG,fun _ h=>absurd h List.not_mem_nil⟩)
 have h10:Lib.nDigits u ≤ 10:=zgj (u:=u) (k:=9) O
 have hpos:=Lib.nDigits_pos u
 refine SR<|AS Z<|G<|SQ<|SR<|MI Z<|Q<|zam Z Z<|G<|zab Z (fun g1=>?_) (fun g1=>?_)
 ·refine SQ <| SR <| Q <| zad (v := .int .u64 _) Z <| Q <| zaN Z Z <| G <| zab Z (fun g2 => ?_) (fun g2 => ?_)
  ·refine SR <| Q (zad (v := .int .u64 _) Z ?_)
   first | refine Q (zaS zca ty3 rfl zbt ?_) | refine Q (za0 zca ty3 rfl ?_)
   refine Q<|zao (v1:=.int .i64 _) ent195 Z Z<|Ret.det (zv4 u O _) V fun w V=>AS Z<|G<|zai func151 Z (TP (v:=str _) Z) ?_
   exact ⟨Z,V.pure⟩
  refine zag<|SR<|Q<|zar V zxR fun w b5 V=>NSR<|Q<|zad (v:=.int .u64 _) Z<|Q<|zao (v1:=.int .u64 _) ent196 Z Z<|Ret.det (zng u _ (V.hD _ Q0) O O) V fun w V=>AI Z<|NSR<|MI Z<|Q (zgN (hi:=Lib.nDigits u) zxR ty5 Z Z Z O ?_)
  refine Q<|zad (v:=.int .u64 _) Z<|Q (zaE (v1:=.slice _ _ _) (v2:=.int .u64 _) ent197 Z Z Z ((lx_FB b5 u _ _ Z _ (V.hL _ Q0) Z O).mono fun v w hp=>?_))
  obtain ⟨ys,hys,rfl,hp⟩:=hp
  replace V:=V.call1 hp
  replace V:St _ _ [Res.row b5 258 ys] _ _:=V
  refine NSR<|MI rfl<|Q<|zgN (hi:=Lib.nDigits u) zxR ty5 rfl rfl rfl (by omega)<|Q<|zcm (l:=Lib.decDigits u) zb9 ty5 ty9 rfl (zmh u).symm ⟨by rw [zdV (es:=1) (fun _=>rfl),zmh,Nat.mul_one],.inr ⟨b5,0,rfl,zac (n:=Lib.nDigits u) (V.objL Q0) _ hys⟩⟩ rfl<|AS rfl<|G<|zai func151 rfl (TP (v:=str _) rfl) ?_
  exact ⟨Z,V.pure⟩
 exfalso
 exact g1 Z
theorem zpy (u:Nat) (hu:u < 4294967296) (w:World) (hG:LxG.holds w):Ret prog 97 #[.int .u64 (u:Int),.int .i64 10] w (fun v w'=>v = str (Lib.decDigits u) ∧ St w NoM [] [] w'):=by
 refine zav (args:=[.int .u64 (u:Int),.int .i64 10]) func97 Z Z Z ?_
 have V:St w NoM [] [LxG] w:=St.init_Ds (by simp only [List.forall_mem_cons]; exact ⟨hG,fun _ h=>absurd h List.not_mem_nil⟩)
 refine SR<|AS Z<|NSR<|Q<|zad (v:=.int .u64 _) Z<|MI Z<|Q<|zaE (v1:=.int .u64 _) (v2:=.int .i64 _) ent151 Z Z Z<|Ret.det (zw3 u hu _ (V.hD _ Q0)) V fun w V=>AS Z<|G<|zai func97 Z (TP (v:=str _) Z) ?_
 exact ⟨Z,V.pure⟩
end Go.SK
namespace Go.SK
open Go Go.Proofs Go.Proofs.Tryz
theorem zhY:TyF prog 251 (.int .i64) 1 8 [.int .i64 0]:=zbp Kr Kr
theorem ty170:TyF prog 170 (.int .u64) 1 8 [.int .u64 0]:=zbp Kr Kr
theorem zfz:zaG prog 187:=⟨f187,_,func187,Kr,rfl⟩
open Go.RowKit
theorem zsh (s:Tx) (hl:s.length ≤ 8) (w:World):Ret prog 144 #[str s,.int .i64 16,.int .i64 32] w (fun v w'=>((∃ n,s.length ≠ 0 ∧ zcX s 0 = some n ∧ v = .tuple #[.int .u64 (n:Int),.nilIface]) ∨ ((s.length = 0 ∨ zcX s 0 = none) ∧ v = .tuple #[.int .u64 0,.iface 251 (.int .i64 2)])) ∧ St w NoM [] [] w'):=by
 refine zav (args:=[str s,.int .i64 16,.int .i64 32]) func144 Z Z Z ?_
 have V:=St.init w
 refine SR<|Q<|zap (v:=.int .u64 _) Z<|Q<|zap (v:=.nilIface) Z<|G<|SQ<|SR<|MS Z<|Q<|zcu Z Z<|G<|zab Z (fun g1=>?_) (fun g1=>?_)
 ·refine SR <| Q <| zbL (v := .int .i64 _) zhY Z Z <| Q <| zap (v := .int .u64 _) Z <| Q <| zap (v := .iface _ _) Z <| G <| zaq func144 Z (TP (v := .int .u64 _) Z) (TP (v := .iface _ _) Z) ?_
  subst g1
  exact ⟨.inr ⟨.inl Z,Z⟩,V.pure⟩
 refine zag<|SR<|MI Z<|Q<|zam Z Z<|AB Z<|NSR<|MS Z<|AS Z<|G<|SQ<|zak<|SQ ?_
 refine RG<|MI Z<|Q<|zbU Z Z<|MB Z<|zau (d:=28) Z (fun g2=>?_) (fun g2=>?_)
 ·refine TK (t := 28) Z (Vb (Dt g2)) <| zad (v := .int .i64 _) Z <| TK (t := 28) Z (Vb (Dt g2)) <| zbU Z Z <| Q <| zaB (u := .bool _) (Vb (Dt g2)) Z <| AB Z <| G <| zab Z (fun g3 => ?_) (fun g3 => ?_)
  ·refine zag <| zah <| SQ <| SR <| MI Z <| Q <| zam Z Z <| G <| zab Z (fun g4 => ?_) (fun g4 => ?_)
   ·exfalso
    omega
   refine SR<|MI Z<|Q<|zaN Z Z<|MB Z<|zau (d:=80) Z (fun g5=>?_) (fun g5=>?_)
   ·exfalso
    omega
   refine TK (t:=80) Z (Vb (Df g5))<|zad (v:=.int .i64 _) Z<|TK (t:=80) Z (Vb (Df g5))<|zbI Z Z<|Q<|zax (u:=.bool _) (Vb (Df g5)) Z<|G<|zaj [(0,str _),(1,.int .i64 _),(2,.int .i64 _),(8,.bool _),(9,str _),(83,.bool _)] E6 fun f=>zab Z (fun g6=>?_) (fun g6=>?_)
   ·exfalso
    omega
   refine zag<|SR<|Q<|zap (v:=.int .u64 _) Z<|G<|SQ<|SR<|MI Z<|G<|zak<|SR<|Q<|zam Z Z<|AB Z ?_
   refine G<|zab Z (fun g7=>?_) (fun g7=>?_)
   ·exfalso
    omega
   refine SR<|Q<|zam Z Z<|AB Z<|G<|zab Z (fun g8=>?_) (fun g8=>?_)
   ·refine RG <| Q <| zap (v := .int .u64 _) Z <| G <| zah <| SR <| MI Z ?_
    first | refine Q (zaS ty3 ty170 rfl zgL ?_) | refine Q (za0 ty3 ty170 rfl ?_)
    refine Q<|zq0 (c:=4294967296) Z Z O De De<|Q<|zbu Z Z Z zgL<|Q<|zap (v:=.int .u64 _) Z<|NSR<|AB Z<|NSR<|Q<|zap (v:=.int .u64 _) Z<|G<|SQ<|SQ<|RG ?_
    refine MS Z<|Q<|zok V ty9 zb9 ty5 Z fun w by_ cpb V=>Q<|zaH (rest:=[]) zb9 Z<|MI Z<|G<|zak<|zaY<|zaZ [(1,.int .i64 _),(8,.bool _),(9,str _),(10,.int .u64 _),(11,.int .u64 _),(99,.slice _ _ _),(100,.int .i64 _)] E7 (fun (qq:Nat × Nat)=>[(12,.bool false),(13,.int .u64 (qq.2:Int)),(101,.int .i64 (qq.1:Int))]) (fun (qq:Nat × Nat)=>[]) (fun (qq:Nat × Nat)=>qq.1 ≤ s.length ∧ qq.2 < 16 ^ qq.1 ∧ zcX s 0 = zcX (s.drop qq.1) qq.2) (fun (qq:Nat × Nat)=>s.length - qq.1) ((0,0)) V ⟨Nat.zero_le _,by decide,Z⟩ E3 ?_
    intro ⟨i,n⟩ f w V hJ ih9
    replace V:St _ _ ([] ++ [_]) _ _:=V
    replace hJ:i ≤ s.length ∧ n < 16 ^ i ∧ zcX s 0 = zcX (s.drop i) n:=hJ
    refine za6 (sl:=[(12,.bool false),(13,.int .u64 (n:Int)),(101,.int .i64 (i:Int))]) E3 ?_
    have hidx:(s.getD ((i:Int).toNat) 0).toNat = (s.getD i 0).toNat:=rfl
    have hidl:bits .or .u8 ((s.getD ((i:Int).toNat) 0).toNat:Int) 32 = bits .or .u8 ((s.getD i 0).toNat:Int) 32:=rfl
    have hlow:=zyh _ (s.getD i 0).toNat_lt
    refine SR<|Q<|zaN Z Z<|G<|SQ<|zab Z (fun g10=>?_) (fun g10=>?_)
    ·have hp16 := zvX (i := i) O
     refine zag<|SQ<|zak<|SR<|Q<|zaR zb9 ty5 (V.hL _ Q0) Z Z O O<|Q<|zae (v:=.int .u8 _) ty5 Z Z (Res.rs2_cell (V.hL _ Q0) (zbD (g:=byC) (d:=0) zfm Z O))<|AC Z<|NSR<|AC Z<|G<|SQ<|zak ?_
     refine SR<|MC Z<|Q<|zam Z Z<|MB Z<|zau (d:=109) Z (fun g11=>?_) (fun g11=>?_)
     ·refine TK (t := 109) Z (Vb (Dt g11)) <| zad (v := .bool _) Z <| Q <| zaB (u := .bool _) (Vb (Dt g11)) Z <| AB Z <| G <| zab Z (fun g12 => ?_) (fun g12 => ?_)
      ·exfalso
       omega
      refine SR<|MC Z<|Q<|zbU Z Z<|MB Z<|zau (d:=115) Z (fun g13=>?_) (fun g13=>?_)
      ·refine TK (t := 115) Z (Vb (Dt g13)) <| zad (v := .int .u8 _) Z <| TK (t := 115) Z (Vb (Dt g13)) <| zbU Z Z <| Q <| zaB (u := .bool _) (Vb (Dt g13)) Z <| AB Z <| G <| zab Z (fun g14 => ?_) (fun g14 => ?_)
       ·refine RG <| MC Z <| Q <| zbu Z Z Z Wu8 <| AC Z <| G <| zah <| zaj [(1, .int .i64 _), (8, .bool _), (9, str _), (10, .int .u64 _), (11, .int .u64 _), (12, .bool _), (13, .int .u64 _), (16, .int .u8 _), (99, .slice _ _ _), (100, .int .i64 _), (101, .int .i64 _)] E11 fun f => SQ <| SR <| MC Z <| MI Z ?_
        first | refine Q (zaS ty3 ty5 rfl Wu8 ?_) | refine Q (za0 ty3 ty5 rfl ?_)
        refine Q<|zbh Z Z<|G<|zab Z (fun g15=>?_) (fun g15=>?_)
        ·exfalso
         omega
        have hyd:zeG (s.getD i 0) = true:=Dt O
        have hwd:(zfE (s.getD i 0):Int) = ((s.getD i 0).toNat:Int) - 48:=by have hq:=of_decide_eq_true hyd; unfold zfE; split <;> (try split) <;> omega
        refine zag<|SQ<|SR<|Q<|zad (v:=.int .u64 _) Z<|Q<|zad (v:=.int .u64 _) Z<|Q<|zbh Z Z<|G<|zab Z (fun g16=>?_) (fun g16=>?_)
        ·exfalso
         omega
        refine zag<|SR<|Q<|zad (v:=.int .u64 _) Z<|MI Z ?_
        first | refine Q (zaS ty3 zca rfl zgL ?_) | refine Q (za0 ty3 zca rfl ?_)
        refine Q<|zdp Z Z Z zgL<|Q<|zap (v:=.int .u64 _) Z<|NSR<|Q<|zad (v:=.int .u64 _) Z<|MC Z ?_
        first | refine Q (zaS ty5 zca rfl zgL ?_) | refine Q (za0 ty5 zca rfl ?_)
        refine Q<|zaA Z Z Z zgL<|Q<|zap (v:=.int .u64 _) Z<|G<|SQ<|SR<|Q<|zad (v:=.int .u64 _) Z<|Q<|zad (v:=.int .u64 _) Z<|Q<|zaN Z Z<|MB Z<|zau (d:=155) Z (fun g17=>?_) (fun g17=>?_)
        ·exfalso
         omega
        refine TK (t:=155) Z (Vb (Df g17))<|zad (v:=.int .u64 _) Z<|TK (t:=155) Z (Vb (Df g17))<|zad (v:=.int .u64 _) Z<|TK (t:=155) Z (Vb (Df g17))<|zbI Z Z<|Q<|zax (u:=.bool _) (Vb (Df g17)) Z<|G<|zaj [(1,.int .i64 _),(8,.bool _),(9,str _),(10,.int .u64 _),(11,.int .u64 _),(12,.bool _),(17,.int .u64 _),(99,.slice _ _ _),(100,.int .i64 _),(101,.int .i64 _),(159,.bool _)] E11 fun f=>zab Z (fun g18=>?_) (fun g18=>?_)
        ·exfalso
         omega
        refine zag<|RG<|Q<|zad (v:=.int .u64 _) Z<|Q<|zap (v:=.int .u64 _) Z<|G<|zah<|RG<|Q<|zaA Z Z Z zbt<|MI Z<|G<|zaD ?_
        exact ih9 ((i + 1,16 * n + zfE (s.getD i 0))) _ w (by (try dsimp only); omega) V (⟨by (try dsimp only); omega,by (try dsimp only); exact zdt hJ.2.1 (zgK hyd).2,by (try dsimp only); rw [hJ.2.2,zeX (by omega) hyd]⟩) E7 ⟨rfl,(congrArg (Value.int .u64) (by (try dsimp only); omega)),(Vi (by (try dsimp only); omega)),trivial⟩
       refine SR<|MC Z<|Q<|zao (v1:=.int .u8 _) zfz Z Z<|Ret.det (zcQ _ _) V fun w V=>Q<|zbU Z Z<|MB Z<|zau (d:=125) Z (fun g19=>?_) (fun g19=>?_)
       ·refine TK (t := 125) Z (Vb (Dt g19)) <| zad (v := .int .u8 _) Z <| TK (t := 125) Z (Vb (Dt g19)) (zao (v1 := .int .u8 _) zfz Z Z ((zcQ _ _).mono fun v w hp => ?_))
        obtain ⟨rfl,hp⟩:=hp
        replace V:=V.keepc hp
        refine TK (t:=125) Z (Vb (Dt g19))<|zbU Z Z<|Q<|zaB (u:=.bool _) (Vb (Dt g19)) Z<|AB Z<|G<|zaj [(1,.int .i64 _),(8,.bool _),(9,str _),(10,.int .u64 _),(11,.int .u64 _),(12,.bool _),(13,.int .u64 _),(15,.int .u8 _),(99,.slice _ _ _),(100,.int .i64 _),(101,.int .i64 _),(121,.bool _)] E12 fun f=>zab Z (fun g20=>?_) (fun g20=>?_)
        ·refine RG <| MC Z <| Q <| zao (v1 := .int .u8 _) zfz Z Z <| Ret.det (zcQ _ _) V fun w V => Q <| zbu Z Z Z Wu8 <| Q <| zaA Z Z Z Wu8 <| AC Z <| G <| zah <| SQ <| SR <| MC Z <| MI Z ?_
         first | refine Q (zaS ty3 ty5 rfl Wu8 ?_) | refine Q (za0 ty3 ty5 rfl ?_)
         refine Q<|zbh Z Z<|G<|zab Z (fun g21=>?_) (fun g21=>?_)
         ·refine SR <| Q <| zbL (v := .int .i64 _) zhY Z Z <| Q <| zap (v := .int .u64 _) Z <| Q <| zap (v := .iface _ _) Z <| G <| zaq func144 Z (TP (v := .int .u64 _) Z) (TP (v := .iface _ _) Z) ?_
          have hno:¬ zeG (s.getD i 0) = true:=fun hn=>by have hn2:=of_decide_eq_true hn; omega
          exact ⟨.inr ⟨.inr (hJ.2.2.trans (zco O hno)),Z⟩,V.pure⟩
         have hyd:zeG (s.getD i 0) = true:=Classical.byContradiction fun hn=>by have hn2:=of_decide_eq_false (Bool.not_eq_true _ ▸ hn); omega
         have hwd:(zfE (s.getD i 0):Int) = bits .or .u8 ((s.getD i 0).toNat:Int) 32 - 87:=by have hq:=of_decide_eq_true hyd; unfold zfE; split <;> (try split) <;> omega
         refine zag<|SQ<|SR<|Q<|zad (v:=.int .u64 _) Z<|Q<|zad (v:=.int .u64 _) Z<|Q<|zbh Z Z<|G<|zab Z (fun g22=>?_) (fun g22=>?_)
         ·exfalso
          omega
         refine zag<|SR<|Q<|zad (v:=.int .u64 _) Z<|MI Z ?_
         first | refine Q (zaS ty3 zca rfl zgL ?_) | refine Q (za0 ty3 zca rfl ?_)
         refine Q<|zdp Z Z Z zgL<|Q<|zap (v:=.int .u64 _) Z<|NSR<|Q<|zad (v:=.int .u64 _) Z<|MC Z ?_
         first | refine Q (zaS ty5 zca rfl zgL ?_) | refine Q (za0 ty5 zca rfl ?_)
         refine Q<|zaA Z Z Z zgL<|Q<|zap (v:=.int .u64 _) Z<|G<|zaj [(1,.int .i64 _),(8,.bool _),(9,str _),(10,.int .u64 _),(11,.int .u64 _),(12,.bool _),(13,.int .u64 _),(17,.int .u64 _),(99,.slice _ _ _),(100,.int .i64 _),(101,.int .i64 _)] E11 fun f=>SQ<|SR<|Q<|zad (v:=.int .u64 _) Z<|Q<|zad (v:=.int .u64 _) Z<|Q<|zaN Z Z<|MB Z<|zau (d:=155) Z (fun g23=>?_) (fun g23=>?_)
         ·exfalso
          omega
         refine TK (t:=155) Z (Vb (Df g23))<|zad (v:=.int .u64 _) Z<|TK (t:=155) Z (Vb (Df g23))<|zad (v:=.int .u64 _) Z<|TK (t:=155) Z (Vb (Df g23))<|zbI Z Z<|Q<|zax (u:=.bool _) (Vb (Df g23)) Z<|G<|zab Z (fun g24=>?_) (fun g24=>?_)
         ·exfalso
          omega
         refine zag<|RG<|Q<|zad (v:=.int .u64 _) Z<|Q<|zap (v:=.int .u64 _) Z<|G<|zah<|RG<|Q<|zaA Z Z Z zbt<|MI Z<|G<|zaD ?_
         exact ih9 ((i + 1,16 * n + zfE (s.getD i 0))) _ w (by (try dsimp only); omega) V (⟨by (try dsimp only); omega,by (try dsimp only); exact zdt hJ.2.1 (zgK hyd).2,by (try dsimp only); rw [hJ.2.2,zeX (by omega) hyd]⟩) E7 ⟨rfl,(congrArg (Value.int .u64) (by (try dsimp only); omega)),(Vi (by (try dsimp only); omega)),trivial⟩
        refine SR<|Q<|zbL (v:=.int .i64 _) zhY Z Z<|Q<|zap (v:=.int .u64 _) Z<|Q<|zap (v:=.iface _ _) Z<|G<|zaq func144 Z (TP (v:=.int .u64 _) Z) (TP (v:=.iface _ _) Z) ?_
        have hno:¬ zeG (s.getD i 0) = true:=fun hn=>by have hn2:=of_decide_eq_true hn; omega
        exact ⟨.inr ⟨.inr (hJ.2.2.trans (zco O hno)),Z⟩,V.pure⟩
       refine OM (t:=125) Z (Vb (Df g19)) Z<|OM (t:=125) Z (Vb (Df g19)) Z<|OM (t:=125) Z (Vb (Df g19)) Z<|Q<|zax (u:=.bool _) (Vb (Df g19)) Z<|AB Z<|G<|zaj [(1,.int .i64 _),(8,.bool _),(9,str _),(10,.int .u64 _),(11,.int .u64 _),(12,.bool _),(13,.int .u64 _),(15,.int .u8 _),(99,.slice _ _ _),(100,.int .i64 _),(101,.int .i64 _),(121,.bool _)] E12 fun f=>zal (Vb (Z:false = _))<|SR<|Q<|zbL (v:=.int .i64 _) zhY Z Z<|Q<|zap (v:=.int .u64 _) Z<|Q<|zap (v:=.iface _ _) Z<|G<|zaq func144 Z (TP (v:=.int .u64 _) Z) (TP (v:=.iface _ _) Z) ?_
       have hno:¬ zeG (s.getD i 0) = true:=fun hn=>by have hn2:=of_decide_eq_true hn; omega
       exact ⟨.inr ⟨.inr (hJ.2.2.trans (zco O hno)),Z⟩,V.pure⟩
      refine OM (t:=115) Z (Vb (Df g13)) Z<|OM (t:=115) Z (Vb (Df g13)) Z<|Q<|zax (u:=.bool _) (Vb (Df g13)) Z<|AB Z<|G<|zal (Vb (Z:false = _))<|SR<|MC Z<|Q<|zao (v1:=.int .u8 _) zfz Z Z<|Ret.det (zcQ _ _) V fun w V=>Q<|zbU Z Z<|MB Z<|zau (d:=125) Z (fun g25=>?_) (fun g25=>?_)
      ·refine TK (t := 125) Z (Vb (Dt g25)) <| zad (v := .int .u8 _) Z <| TK (t := 125) Z (Vb (Dt g25)) (zao (v1 := .int .u8 _) zfz Z Z ((zcQ _ _).mono fun v w hp => ?_))
       obtain ⟨rfl,hp⟩:=hp
       replace V:=V.keepc hp
       refine TK (t:=125) Z (Vb (Dt g25))<|zbU Z Z<|Q<|zaB (u:=.bool _) (Vb (Dt g25)) Z<|AB Z<|G<|zaj [(1,.int .i64 _),(8,.bool _),(9,str _),(10,.int .u64 _),(11,.int .u64 _),(12,.bool _),(13,.int .u64 _),(15,.int .u8 _),(99,.slice _ _ _),(100,.int .i64 _),(101,.int .i64 _),(121,.bool _)] E12 fun f=>zab Z (fun g26=>?_) (fun g26=>?_)
       ·refine RG <| MC Z <| Q <| zao (v1 := .int .u8 _) zfz Z Z <| Ret.det (zcQ _ _) V fun w V => Q <| zbu Z Z Z Wu8 <| Q <| zaA Z Z Z Wu8 <| AC Z <| G <| zah <| SQ <| SR <| MC Z <| MI Z ?_
        first | refine Q (zaS ty3 ty5 rfl Wu8 ?_) | refine Q (za0 ty3 ty5 rfl ?_)
        refine Q<|zbh Z Z<|G<|zab Z (fun g27=>?_) (fun g27=>?_)
        ·refine SR <| Q <| zbL (v := .int .i64 _) zhY Z Z <| Q <| zap (v := .int .u64 _) Z <| Q <| zap (v := .iface _ _) Z <| G <| zaq func144 Z (TP (v := .int .u64 _) Z) (TP (v := .iface _ _) Z) ?_
         have hno:¬ zeG (s.getD i 0) = true:=fun hn=>by have hn2:=of_decide_eq_true hn; omega
         exact ⟨.inr ⟨.inr (hJ.2.2.trans (zco O hno)),Z⟩,V.pure⟩
        have hyd:zeG (s.getD i 0) = true:=Classical.byContradiction fun hn=>by have hn2:=of_decide_eq_false (Bool.not_eq_true _ ▸ hn); omega
        have hwd:(zfE (s.getD i 0):Int) = bits .or .u8 ((s.getD i 0).toNat:Int) 32 - 87:=by have hq:=of_decide_eq_true hyd; unfold zfE; split <;> (try split) <;> omega
        refine zag<|SQ<|SR<|Q<|zad (v:=.int .u64 _) Z<|Q<|zad (v:=.int .u64 _) Z<|Q<|zbh Z Z<|G<|zab Z (fun g28=>?_) (fun g28=>?_)
        ·exfalso
         omega
        refine zag<|SR<|Q<|zad (v:=.int .u64 _) Z<|MI Z ?_
        first | refine Q (zaS ty3 zca rfl zgL ?_) | refine Q (za0 ty3 zca rfl ?_)
        refine Q<|zdp Z Z Z zgL<|Q<|zap (v:=.int .u64 _) Z<|NSR<|Q<|zad (v:=.int .u64 _) Z<|MC Z ?_
        first | refine Q (zaS ty5 zca rfl zgL ?_) | refine Q (za0 ty5 zca rfl ?_)
        refine Q<|zaA Z Z Z zgL<|Q<|zap (v:=.int .u64 _) Z<|G<|zaj [(1,.int .i64 _),(8,.bool _),(9,str _),(10,.int .u64 _),(11,.int .u64 _),(12,.bool _),(13,.int .u64 _),(17,.int .u64 _),(99,.slice _ _ _),(100,.int .i64 _),(101,.int .i64 _)] E11 fun f=>SQ<|SR<|Q<|zad (v:=.int .u64 _) Z<|Q<|zad (v:=.int .u64 _) Z<|Q<|zaN Z Z<|MB Z<|zau (d:=155) Z (fun g29=>?_) (fun g29=>?_)
        ·exfalso
         omega
        refine TK (t:=155) Z (Vb (Df g29))<|zad (v:=.int .u64 _) Z<|TK (t:=155) Z (Vb (Df g29))<|zad (v:=.int .u64 _) Z<|TK (t:=155) Z (Vb (Df g29))<|zbI Z Z<|Q<|zax (u:=.bool _) (Vb (Df g29)) Z<|G<|zab Z (fun g30=>?_) (fun g30=>?_)
        ·exfalso
         omega
        refine zag<|RG<|Q<|zad (v:=.int .u64 _) Z<|Q<|zap (v:=.int .u64 _) Z<|G<|zah<|RG<|Q<|zaA Z Z Z zbt<|MI Z<|G<|zaD ?_
        exact ih9 ((i + 1,16 * n + zfE (s.getD i 0))) _ w (by (try dsimp only); omega) V (⟨by (try dsimp only); omega,by (try dsimp only); exact zdt hJ.2.1 (zgK hyd).2,by (try dsimp only); rw [hJ.2.2,zeX (by omega) hyd]⟩) E7 ⟨rfl,(congrArg (Value.int .u64) (by (try dsimp only); omega)),(Vi (by (try dsimp only); omega)),trivial⟩
       refine SR<|Q<|zbL (v:=.int .i64 _) zhY Z Z<|Q<|zap (v:=.int .u64 _) Z<|Q<|zap (v:=.iface _ _) Z<|G<|zaq func144 Z (TP (v:=.int .u64 _) Z) (TP (v:=.iface _ _) Z) ?_
       have hno:¬ zeG (s.getD i 0) = true:=fun hn=>by have hn2:=of_decide_eq_true hn; omega
       exact ⟨.inr ⟨.inr (hJ.2.2.trans (zco O hno)),Z⟩,V.pure⟩
      refine OM (t:=125) Z (Vb (Df g25)) Z<|OM (t:=125) Z (Vb (Df g25)) Z<|OM (t:=125) Z (Vb (Df g25)) Z<|Q<|zax (u:=.bool _) (Vb (Df g25)) Z<|AB Z<|G<|zaj [(1,.int .i64 _),(8,.bool _),(9,str _),(10,.int .u64 _),(11,.int .u64 _),(12,.bool _),(13,.int .u64 _),(15,.int .u8 _),(99,.slice _ _ _),(100,.int .i64 _),(101,.int .i64 _),(121,.bool _)] E12 fun f=>zal (Vb (Z:false = _))<|SR<|Q<|zbL (v:=.int .i64 _) zhY Z Z<|Q<|zap (v:=.int .u64 _) Z<|Q<|zap (v:=.iface _ _) Z<|G<|zaq func144 Z (TP (v:=.int .u64 _) Z) (TP (v:=.iface _ _) Z) ?_
      have hno:¬ zeG (s.getD i 0) = true:=fun hn=>by have hn2:=of_decide_eq_true hn; omega
      exact ⟨.inr ⟨.inr (hJ.2.2.trans (zco O hno)),Z⟩,V.pure⟩
     refine OM (t:=109) Z (Vb (Df g11)) Z<|Q<|zax (u:=.bool _) (Vb (Df g11)) Z<|AB Z<|G<|zal (Vb (Z:false = _))<|SR<|MC Z<|Q<|zbU Z Z<|MB Z<|zau (d:=115) Z (fun g31=>?_) (fun g31=>?_)
     ·refine TK (t := 115) Z (Vb (Dt g31)) <| zad (v := .int .u8 _) Z <| TK (t := 115) Z (Vb (Dt g31)) <| zbU Z Z <| Q <| zaB (u := .bool _) (Vb (Dt g31)) Z <| AB Z <| G <| zab Z (fun g32 => ?_) (fun g32 => ?_)
      ·refine RG <| MC Z <| Q <| zbu Z Z Z Wu8 <| AC Z <| G <| zah <| zaj [(1, .int .i64 _), (8, .bool _), (9, str _), (10, .int .u64 _), (11, .int .u64 _), (12, .bool _), (13, .int .u64 _), (16, .int .u8 _), (99, .slice _ _ _), (100, .int .i64 _), (101, .int .i64 _)] E11 fun f => SQ <| SR <| MC Z <| MI Z ?_
       first | refine Q (zaS ty3 ty5 rfl Wu8 ?_) | refine Q (za0 ty3 ty5 rfl ?_)
       refine Q<|zbh Z Z<|G<|zab Z (fun g33=>?_) (fun g33=>?_)
       ·exfalso
        omega
       have hyd:zeG (s.getD i 0) = true:=Dt O
       have hwd:(zfE (s.getD i 0):Int) = ((s.getD i 0).toNat:Int) - 48:=by have hq:=of_decide_eq_true hyd; unfold zfE; split <;> (try split) <;> omega
       refine zag<|SQ<|SR<|Q<|zad (v:=.int .u64 _) Z<|Q<|zad (v:=.int .u64 _) Z<|Q<|zbh Z Z<|G<|zab Z (fun g34=>?_) (fun g34=>?_)
       ·exfalso
        omega
       refine zag<|SR<|Q<|zad (v:=.int .u64 _) Z<|MI Z ?_
       first | refine Q (zaS ty3 zca rfl zgL ?_) | refine Q (za0 ty3 zca rfl ?_)
       refine Q<|zdp Z Z Z zgL<|Q<|zap (v:=.int .u64 _) Z<|NSR<|Q<|zad (v:=.int .u64 _) Z<|MC Z ?_
       first | refine Q (zaS ty5 zca rfl zgL ?_) | refine Q (za0 ty5 zca rfl ?_)
       refine Q<|zaA Z Z Z zgL<|Q<|zap (v:=.int .u64 _) Z<|G<|SQ<|SR<|Q<|zad (v:=.int .u64 _) Z<|Q<|zad (v:=.int .u64 _) Z<|Q<|zaN Z Z<|MB Z<|zau (d:=155) Z (fun g35=>?_) (fun g35=>?_)
       ·exfalso
        omega
       refine TK (t:=155) Z (Vb (Df g35))<|zad (v:=.int .u64 _) Z<|TK (t:=155) Z (Vb (Df g35))<|zad (v:=.int .u64 _) Z<|TK (t:=155) Z (Vb (Df g35))<|zbI Z Z<|Q<|zax (u:=.bool _) (Vb (Df g35)) Z<|G<|zaj [(1,.int .i64 _),(8,.bool _),(9,str _),(10,.int .u64 _),(11,.int .u64 _),(12,.bool _),(17,.int .u64 _),(99,.slice _ _ _),(100,.int .i64 _),(101,.int .i64 _),(159,.bool _)] E11 fun f=>zab Z (fun g36=>?_) (fun g36=>?_)
       ·exfalso
        omega
       refine zag<|RG<|Q<|zad (v:=.int .u64 _) Z<|Q<|zap (v:=.int .u64 _) Z<|G<|zah<|RG<|Q<|zaA Z Z Z zbt<|MI Z<|G<|zaD ?_
       exact ih9 ((i + 1,16 * n + zfE (s.getD i 0))) _ w (by (try dsimp only); omega) V (⟨by (try dsimp only); omega,by (try dsimp only); exact zdt hJ.2.1 (zgK hyd).2,by (try dsimp only); rw [hJ.2.2,zeX (by omega) hyd]⟩) E7 ⟨rfl,(congrArg (Value.int .u64) (by (try dsimp only); omega)),(Vi (by (try dsimp only); omega)),trivial⟩
      refine SR<|MC Z<|Q<|zao (v1:=.int .u8 _) zfz Z Z<|Ret.det (zcQ _ _) V fun w V=>Q<|zbU Z Z<|MB Z<|zau (d:=125) Z (fun g37=>?_) (fun g37=>?_)
      ·refine TK (t := 125) Z (Vb (Dt g37)) <| zad (v := .int .u8 _) Z <| TK (t := 125) Z (Vb (Dt g37)) (zao (v1 := .int .u8 _) zfz Z Z ((zcQ _ _).mono fun v w hp => ?_))
       obtain ⟨rfl,hp⟩:=hp
       replace V:=V.keepc hp
       refine TK (t:=125) Z (Vb (Dt g37))<|zbU Z Z<|Q<|zaB (u:=.bool _) (Vb (Dt g37)) Z<|AB Z<|G<|zaj [(1,.int .i64 _),(8,.bool _),(9,str _),(10,.int .u64 _),(11,.int .u64 _),(12,.bool _),(13,.int .u64 _),(15,.int .u8 _),(99,.slice _ _ _),(100,.int .i64 _),(101,.int .i64 _),(121,.bool _)] E12 fun f=>zab Z (fun g38=>?_) (fun g38=>?_)
       ·refine RG <| MC Z <| Q <| zao (v1 := .int .u8 _) zfz Z Z <| Ret.det (zcQ _ _) V fun w V => Q <| zbu Z Z Z Wu8 <| Q <| zaA Z Z Z Wu8 <| AC Z <| G <| zah <| SQ <| SR <| MC Z <| MI Z ?_
        first | refine Q (zaS ty3 ty5 rfl Wu8 ?_) | refine Q (za0 ty3 ty5 rfl ?_)
        refine Q<|zbh Z Z<|G<|zab Z (fun g39=>?_) (fun g39=>?_)
        ·refine SR <| Q <| zbL (v := .int .i64 _) zhY Z Z <| Q <| zap (v := .int .u64 _) Z <| Q <| zap (v := .iface _ _) Z <| G <| zaq func144 Z (TP (v := .int .u64 _) Z) (TP (v := .iface _ _) Z) ?_
         have hno:¬ zeG (s.getD i 0) = true:=fun hn=>by have hn2:=of_decide_eq_true hn; omega
         exact ⟨.inr ⟨.inr (hJ.2.2.trans (zco O hno)),Z⟩,V.pure⟩
        have hyd:zeG (s.getD i 0) = true:=Classical.byContradiction fun hn=>by have hn2:=of_decide_eq_false (Bool.not_eq_true _ ▸ hn); omega
        have hwd:(zfE (s.getD i 0):Int) = bits .or .u8 ((s.getD i 0).toNat:Int) 32 - 87:=by have hq:=of_decide_eq_true hyd; unfold zfE; split <;> (try split) <;> omega
        refine zag<|SQ<|SR<|Q<|zad (v:=.int .u64 _) Z<|Q<|zad (v:=.int .u64 _) Z<|Q<|zbh Z Z<|G<|zab Z (fun g40=>?_) (fun g40=>?_)
        ·exfalso
         omega
        refine zag<|SR<|Q<|zad (v:=.int .u64 _) Z<|MI Z ?_
        first | refine Q (zaS ty3 zca rfl zgL ?_) | refine Q (za0 ty3 zca rfl ?_)
        refine Q<|zdp Z Z Z zgL<|Q<|zap (v:=.int .u64 _) Z<|NSR<|Q<|zad (v:=.int .u64 _) Z<|MC Z ?_
        first | refine Q (zaS ty5 zca rfl zgL ?_) | refine Q (za0 ty5 zca rfl ?_)
        refine Q<|zaA Z Z Z zgL<|Q<|zap (v:=.int .u64 _) Z<|G<|zaj [(1,.int .i64 _),(8,.bool _),(9,str _),(10,.int .u64 _),(11,.int .u64 _),(12,.bool _),(13,.int .u64 _),(17,.int .u64 _),(99,.slice _ _ _),(100,.int .i64 _),(101,.int .i64 _)] E11 fun f=>SQ<|SR<|Q<|zad (v:=.int .u64 _) Z<|Q<|zad (v:=.int .u64 _) Z<|Q<|zaN Z Z<|MB Z<|zau (d:=155) Z (fun g41=>?_) (fun g41=>?_)
        ·exfalso
         omega
        refine TK (t:=155) Z (Vb (Df g41))<|zad (v:=.int .u64 _) Z<|TK (t:=155) Z (Vb (Df g41))<|zad (v:=.int .u64 _) Z<|TK (t:=155) Z (Vb (Df g41))<|zbI Z Z<|Q<|zax (u:=.bool _) (Vb (Df g41)) Z<|G<|zab Z (fun g42=>?_) (fun g42=>?_)
        ·exfalso
         omega
        refine zag<|RG<|Q<|zad (v:=.int .u64 _) Z<|Q<|zap (v:=.int .u64 _) Z<|G<|zah<|RG<|Q<|zaA Z Z Z zbt<|MI Z<|G<|zaD ?_
        exact ih9 ((i + 1,16 * n + zfE (s.getD i 0))) _ w (by (try dsimp only); omega) V (⟨by (try dsimp only); omega,by (try dsimp only); exact zdt hJ.2.1 (zgK hyd).2,by (try dsimp only); rw [hJ.2.2,zeX (by omega) hyd]⟩) E7 ⟨rfl,(congrArg (Value.int .u64) (by (try dsimp only); omega)),(Vi (by (try dsimp only); omega)),trivial⟩
       refine SR<|Q<|zbL (v:=.int .i64 _) zhY Z Z<|Q<|zap (v:=.int .u64 _) Z<|Q<|zap (v:=.iface _ _) Z<|G<|zaq func144 Z (TP (v:=.int .u64 _) Z) (TP (v:=.iface _ _) Z) ?_
       have hno:¬ zeG (s.getD i 0) = true:=fun hn=>by have hn2:=of_decide_eq_true hn; omega
       exact ⟨.inr ⟨.inr (hJ.2.2.trans (zco O hno)),Z⟩,V.pure⟩
      refine OM (t:=125) Z (Vb (Df g37)) Z<|OM (t:=125) Z (Vb (Df g37)) Z<|OM (t:=125) Z (Vb (Df g37)) Z<|Q<|zax (u:=.bool _) (Vb (Df g37)) Z<|AB Z<|G<|zaj [(1,.int .i64 _),(8,.bool _),(9,str _),(10,.int .u64 _),(11,.int .u64 _),(12,.bool _),(13,.int .u64 _),(15,.int .u8 _),(99,.slice _ _ _),(100,.int .i64 _),(101,.int .i64 _),(121,.bool _)] E12 fun f=>zal (Vb (Z:false = _))<|SR<|Q<|zbL (v:=.int .i64 _) zhY Z Z<|Q<|zap (v:=.int .u64 _) Z<|Q<|zap (v:=.iface _ _) Z<|G<|zaq func144 Z (TP (v:=.int .u64 _) Z) (TP (v:=.iface _ _) Z) ?_
      have hno:¬ zeG (s.getD i 0) = true:=fun hn=>by have hn2:=of_decide_eq_true hn; omega
      exact ⟨.inr ⟨.inr (hJ.2.2.trans (zco O hno)),Z⟩,V.pure⟩
     refine OM (t:=115) Z (Vb (Df g31)) Z<|OM (t:=115) Z (Vb (Df g31)) Z<|Q<|zax (u:=.bool _) (Vb (Df g31)) Z<|AB Z<|G<|zal (Vb (Z:false = _))<|SR<|MC Z<|Q<|zao (v1:=.int .u8 _) zfz Z Z<|Ret.det (zcQ _ _) V fun w V=>Q<|zbU Z Z<|MB Z<|zau (d:=125) Z (fun g43=>?_) (fun g43=>?_)
     ·refine TK (t := 125) Z (Vb (Dt g43)) <| zad (v := .int .u8 _) Z <| TK (t := 125) Z (Vb (Dt g43)) (zao (v1 := .int .u8 _) zfz Z Z ((zcQ _ _).mono fun v w hp => ?_))
      obtain ⟨rfl,hp⟩:=hp
      replace V:=V.keepc hp
      refine TK (t:=125) Z (Vb (Dt g43))<|zbU Z Z<|Q<|zaB (u:=.bool _) (Vb (Dt g43)) Z<|AB Z<|G<|zaj [(1,.int .i64 _),(8,.bool _),(9,str _),(10,.int .u64 _),(11,.int .u64 _),(12,.bool _),(13,.int .u64 _),(15,.int .u8 _),(99,.slice _ _ _),(100,.int .i64 _),(101,.int .i64 _),(121,.bool _)] E12 fun f=>zab Z (fun g44=>?_) (fun g44=>?_)
      ·refine RG <| MC Z <| Q <| zao (v1 := .int .u8 _) zfz Z Z <| Ret.det (zcQ _ _) V fun w V => Q <| zbu Z Z Z Wu8 <| Q <| zaA Z Z Z Wu8 <| AC Z <| G <| zah <| SQ <| SR <| MC Z <| MI Z ?_
       first | refine Q (zaS ty3 ty5 rfl Wu8 ?_) | refine Q (za0 ty3 ty5 rfl ?_)
       refine Q<|zbh Z Z<|G<|zab Z (fun g45=>?_) (fun g45=>?_)
       ·refine SR <| Q <| zbL (v := .int .i64 _) zhY Z Z <| Q <| zap (v := .int .u64 _) Z <| Q <| zap (v := .iface _ _) Z <| G <| zaq func144 Z (TP (v := .int .u64 _) Z) (TP (v := .iface _ _) Z) ?_
        have hno:¬ zeG (s.getD i 0) = true:=fun hn=>by have hn2:=of_decide_eq_true hn; omega
        exact ⟨.inr ⟨.inr (hJ.2.2.trans (zco O hno)),Z⟩,V.pure⟩
       have hyd:zeG (s.getD i 0) = true:=Classical.byContradiction fun hn=>by have hn2:=of_decide_eq_false (Bool.not_eq_true _ ▸ hn); omega
       have hwd:(zfE (s.getD i 0):Int) = bits .or .u8 ((s.getD i 0).toNat:Int) 32 - 87:=by have hq:=of_decide_eq_true hyd; unfold zfE; split <;> (try split) <;> omega
       refine zag<|SQ<|SR<|Q<|zad (v:=.int .u64 _) Z<|Q<|zad (v:=.int .u64 _) Z<|Q<|zbh Z Z<|G<|zab Z (fun g46=>?_) (fun g46=>?_)
       ·exfalso
        omega
       refine zag<|SR<|Q<|zad (v:=.int .u64 _) Z<|MI Z ?_
       first | refine Q (zaS ty3 zca rfl zgL ?_) | refine Q (za0 ty3 zca rfl ?_)
       refine Q<|zdp Z Z Z zgL<|Q<|zap (v:=.int .u64 _) Z<|NSR<|Q<|zad (v:=.int .u64 _) Z<|MC Z ?_
       first | refine Q (zaS ty5 zca rfl zgL ?_) | refine Q (za0 ty5 zca rfl ?_)
       refine Q<|zaA Z Z Z zgL<|Q<|zap (v:=.int .u64 _) Z<|G<|zaj [(1,.int .i64 _),(8,.bool _),(9,str _),(10,.int .u64 _),(11,.int .u64 _),(12,.bool _),(13,.int .u64 _),(17,.int .u64 _),(99,.slice _ _ _),(100,.int .i64 _),(101,.int .i64 _)] E11 fun f=>SQ<|SR<|Q<|zad (v:=.int .u64 _) Z<|Q<|zad (v:=.int .u64 _) Z<|Q<|zaN Z Z<|MB Z<|zau (d:=155) Z (fun g47=>?_) (fun g47=>?_)
       ·exfalso
        omega
       refine TK (t:=155) Z (Vb (Df g47))<|zad (v:=.int .u64 _) Z<|TK (t:=155) Z (Vb (Df g47))<|zad (v:=.int .u64 _) Z<|TK (t:=155) Z (Vb (Df g47))<|zbI Z Z<|Q<|zax (u:=.bool _) (Vb (Df g47)) Z<|G<|zab Z (fun g48=>?_) (fun g48=>?_)
       ·exfalso
        omega
       refine zag<|RG<|Q<|zad (v:=.int .u64 _) Z<|Q<|zap (v:=.int .u64 _) Z<|G<|zah<|RG<|Q<|zaA Z Z Z zbt<|MI Z<|G<|zaD ?_
       exact ih9 ((i + 1,16 * n + zfE (s.getD i 0))) _ w (by (try dsimp only); omega) V (⟨by (try dsimp only); omega,by (try dsimp only); exact zdt hJ.2.1 (zgK hyd).2,by (try dsimp only); rw [hJ.2.2,zeX (by omega) hyd]⟩) E7 ⟨rfl,(congrArg (Value.int .u64) (by (try dsimp only); omega)),(Vi (by (try dsimp only); omega)),trivial⟩
      refine SR<|Q<|zbL (v:=.int .i64 _) zhY Z Z<|Q<|zap (v:=.int .u64 _) Z<|Q<|zap (v:=.iface _ _) Z<|G<|zaq func144 Z (TP (v:=.int .u64 _) Z) (TP (v:=.iface _ _) Z) ?_
      have hno:¬ zeG (s.getD i 0) = true:=fun hn=>by have hn2:=of_decide_eq_true hn; omega
      exact ⟨.inr ⟨.inr (hJ.2.2.trans (zco O hno)),Z⟩,V.pure⟩
     refine OM (t:=125) Z (Vb (Df g43)) Z<|OM (t:=125) Z (Vb (Df g43)) Z<|OM (t:=125) Z (Vb (Df g43)) Z<|Q<|zax (u:=.bool _) (Vb (Df g43)) Z<|AB Z<|G<|zaj [(1,.int .i64 _),(8,.bool _),(9,str _),(10,.int .u64 _),(11,.int .u64 _),(12,.bool _),(13,.int .u64 _),(15,.int .u8 _),(99,.slice _ _ _),(100,.int .i64 _),(101,.int .i64 _),(121,.bool _)] E12 fun f=>zal (Vb (Z:false = _))<|SR<|Q<|zbL (v:=.int .i64 _) zhY Z Z<|Q<|zap (v:=.int .u64 _) Z<|Q<|zap (v:=.iface _ _) Z<|G<|zaq func144 Z (TP (v:=.int .u64 _) Z) (TP (v:=.iface _ _) Z) ?_
     have hno:¬ zeG (s.getD i 0) = true:=fun hn=>by have hn2:=of_decide_eq_true hn; omega
     exact ⟨.inr ⟨.inr (hJ.2.2.trans (zco O hno)),Z⟩,V.pure⟩
    refine zaK (id:=3) Z<|SQ<|SR<|MB Z<|MB Z<|OM (t:=165) Z (Vb (Z:false = _)) Z<|OM (t:=165) Z (Vb (Z:false = _)) Z<|OM (t:=165) Z (Vb (Z:false = _)) Z<|Q<|zax (u:=.bool _) (Vb (Z:false = _)) Z<|G<|zal (Vb (Z:false = _))<|zag<|SQ<|RG ?_
    refine Q<|zad (v:=.int .u64 _) Z<|Q<|zap (v:=.int .u64 _) Z<|Q<|zap (v:=.nilIface) Z<|G<|zaq func144 Z (TP (v:=.int .u64 _) Z) (TP (v:=.nilIface) Z) ?_
    exact ⟨.inl ⟨n,fun e=>g1 (List.length_eq_zero_iff.1 e),hJ.2.2.trans (zwc O),Z⟩,V.pure⟩
   exfalso
   omega
  exfalso
  omega
 exfalso
 omega
end Go.SK
namespace Go.SK
open Go Go.Proofs Go.Proofs.Tryz
theorem ent144:zaG prog 144:=⟨f144,_,func144,Kr,rfl⟩
theorem zq7:TyF prog 151 (.interface (ztI prog 151)) 1 16 [.nilIface]:=zbp Kr Kr
theorem ent145:zaG prog 145:=⟨f145,_,func145,Kr,rfl⟩
theorem ent86:zaG prog 86:=⟨f86,_,func86,Kr,rfl⟩
theorem zyt:zaG prog 97:=⟨f97,_,func97,Kr,rfl⟩
theorem zwv:zaG prog 83:=⟨f83,_,func83,Kr,rfl⟩
theorem zua:zaG prog 84:=⟨f84,_,func84,Kr,rfl⟩
theorem zrZ:zaG prog 85:=⟨f85,_,func85,Kr,rfl⟩
theorem ent87:zaG prog 87:=⟨f87,_,func87,Kr,rfl⟩
open Go.RowKit
theorem zuO (s:Tx) (hl:s.length ≤ 8) (w:World) (hG:LxG.holds w):Ret prog 86 #[str s,.int .i64 16,.int .i64 32] w (fun v w'=>((∃ n,s.length ≠ 0 ∧ zcX s 0 = some n ∧ v = .tuple #[.int .u64 (n:Int),.nilIface]) ∨ ((s.length = 0 ∨ zcX s 0 = none) ∧ ∃ N,v = .tuple #[.int .u64 0,.iface 252 (.pointer (some ⟨N,0,none⟩))])) ∧ St w NoM [] [] w'):=by
 refine zav (args:=[str s,.int .i64 16,.int .i64 32]) func86 Z Z Z ?_
 have V:St w NoM [] [LxG] w:=St.init_Ds (by simp only [List.forall_mem_cons]; exact ⟨hG,fun _ h=>absurd h List.not_mem_nil⟩)
 refine SR<|Q<|zap (v:=.int .u64 _) Z<|Q<|zap (v:=.nilIface) Z<|NSR<|MS Z<|MI Z<|MI Z<|Q (zbj (v1:=str _) (v2:=.int .i64 _) (v3:=.int .i64 _) ent144 Z Z Z Z ((zsh s hl _).mono fun v w hp=>?_))
 replace hp:=or_and_right.1 hp
 rcases hp with ⟨⟨n,hne,hn,rfl⟩,hp⟩ | ⟨⟨hno,rfl⟩,hp⟩
 ·replace V := V.keepc hp
  refine Q<|zad (v:=.tuple #[.int .u64 _,.nilIface]) Z<|Q<|Ex (.int .u64 _) Z Z<|Q<|Ex (.nilIface) Z Z<|Q<|zap (v:=.int .u64 _) Z<|Q<|zap (v:=.nilIface) Z<|G<|SQ<|SR<|Q<|zad (v:=.nilIface) Z<|Q<|zva zq7 Z Z<|G<|zal (Vb (Z:false = _))<|zag<|SQ ?_
  refine RG<|Q<|zad (v:=.int .u64 _) Z<|Q<|zap (v:=.int .u64 _) Z<|Q<|zap (v:=.nilIface) Z<|G<|zaq func86 Z (TP (v:=.int .u64 _) Z) (TP (v:=.nilIface) Z) ?_
  exact ⟨.inl ⟨n,hne,hn,Z⟩,V.pure⟩
 ·replace V := V.keepc hp
  refine Q<|zad (v:=.tuple #[.int .u64 _,.iface _ _]) Z<|Q<|Ex (.int .u64 _) Z Z<|Q<|Ex (.iface _ _) Z Z<|Q<|zap (v:=.int .u64 _) Z<|Q<|zap (v:=.iface _ _) Z<|G<|SQ<|SR<|Q<|zad (v:=.iface _ _) Z<|Q<|zvb zq7 Z Z<|G<|zas (Vb (Z:true = _))<|SQ<|RG ?_
  refine Q<|zad (v:=.int .u64 _) Z<|MS Z<|MI Z<|MI Z<|Q<|zad (v:=.iface _ _) Z<|Q (zve (v1:=str _) (v2:=str _) (v3:=.int .i64 _) (v4:=.int .i64 _) (v5:=.iface _ _) ent145 Z Z Z Z Z Z ((lx_TE _ s _ (V.hD _ Q0) O).mono fun v w hp=>?_))
  obtain ⟨⟨N,rfl⟩,hp⟩:=hp
  replace V:=V.keepc hp
  refine Q<|zap (v:=.int .u64 _) Z<|Q<|zap (v:=.iface _ _) Z<|G<|zaq func86 Z (TP (v:=.int .u64 _) Z) (TP (v:=.iface _ _) Z) ?_
  exact ⟨.inr ⟨hno,N,Z⟩,V.pure⟩
theorem zgw (s:Tx) (w:World) (hG:LxG.holds w) (hl:s.length ≤ 140737488355328):Ret prog 83 #[str s] w (fun v w'=>v = .tuple #[.int .u32 (puV s:Int),.bool (zba s).isSome] ∧ St w NoM [] [] w'):=by
 refine zav (args:=[str s]) func83 Z Z Z ?_
 have V:St w NoM [] [LxG] w:=St.init_Ds (by simp only [List.forall_mem_cons]; exact ⟨hG,fun _ h=>absurd h List.not_mem_nil⟩)
 have hpv:=zxi s
 refine SR<|AU Z<|AB Z<|NSR<|MS Z<|Q (zbj (v1:=str _) (v2:=.int .i64 _) (v3:=.int .i64 _) ent86 Z Z Z Z ((zyf s _ (V.hD _ Q0) O).mono fun v w hp=>?_))
 replace hp:=or_and_right.1 hp
 rcases hp with ⟨⟨ho,rfl⟩,hp⟩ | ⟨⟨ho,N,rfl⟩,hp⟩
 ·replace V := V.keepc hp
  refine Q<|zad (v:=.tuple #[.int .u64 _,.nilIface]) Z<|Q<|Ex (.int .u64 _) Z Z<|Q<|Ex (.nilIface) Z Z<|Q<|zap (v:=.int .u64 _) Z<|Q<|zap (v:=.nilIface) Z<|NSR<|Q (zad (v:=.int .u64 _) Z ?_)
  first | refine Q (zaS zca za9 rfl zsa ?_) | refine Q (za0 zca za9 rfl ?_)
  refine Q<|zad (v:=.nilIface) Z<|Q<|zoo zq7 Z Z<|MB Z<|TK (t:=15) Z (Vb (Z:true = _))<|zad (v:=.int .u64 _) Z<|TK (t:=15) Z (Vb (Z:true = _)) (zaE (v1:=.int .u64 _) (v2:=.int .i64 _) zyt Z Z Z ((zpy (puV s) O _ (V.hD _ Q0)).mono fun v w hp=>?_))
  obtain ⟨rfl,hp⟩:=hp
  replace V:=V.keepc hp
  refine TK (t:=15) Z (Vb (Z:true = _))<|zad (v:=str _) Z<|TK (t:=15) Z (Vb (Z:true = _))<|zcu Z Z<|Q<|zaB (u:=.bool _) (Vb (Z:true = _)) Z<|AU Z<|AB Z<|G<|zaq func83 Z (TP (v:=.int .u32 _) Z) (TP (v:=.bool _) Z) ?_
  rw [ztu ho]
  exact ⟨Z,V.pure⟩
 ·replace V := V.keepc hp
  refine Q<|zad (v:=.tuple #[.int .u64 _,.iface _ _]) Z<|Q<|Ex (.int .u64 _) Z Z<|Q<|Ex (.iface _ _) Z Z<|Q<|zap (v:=.int .u64 _) Z<|Q<|zap (v:=.iface _ _) Z<|NSR<|Q (zad (v:=.int .u64 _) Z ?_)
  first | refine Q (zaS zca za9 rfl zsa ?_) | refine Q (za0 zca za9 rfl ?_)
  refine Q<|zad (v:=.iface _ _) Z<|Q<|zop zq7 Z Z<|MB Z<|OM (t:=15) Z (Vb (Z:false = _)) Z<|OM (t:=15) Z (Vb (Z:false = _)) Z<|OM (t:=15) Z (Vb (Z:false = _)) Z<|OM (t:=15) Z (Vb (Z:false = _)) Z<|Q<|zax (u:=.bool _) (Vb (Z:false = _)) Z<|AU Z<|AB Z<|G<|zaq func83 Z (TP (v:=.int .u32 _) Z) (TP (v:=.bool _) Z) ?_
  rw [zvY ho]
  exact ⟨Z,V.pure⟩
theorem zc2 (s:Tx) (w:World) (hG:LxG.holds w) (hl:s.length ≤ 140737488355328):Ret prog 40 #[str s] w (fun v w'=>v = .tuple #[.int .u32 (za3 s).1,.int .i64 (za3 s).2] ∧ St w NoM [] [] w'):=by
 refine zav (args:=[str s]) func40 Z Z Z ?_
 have V:St w NoM [] [LxG] w:=St.init_Ds (by simp only [List.forall_mem_cons]; exact ⟨hG,fun _ h=>absurd h List.not_mem_nil⟩)
 refine SR<|AU rfl<|AI rfl<|G<|SQ<|SR<|MS rfl<|Q<|zao (v1:=str _) zwv rfl rfl<|Ret.det (zgw _ _ (V.hD _ Q0) (by first | omega | (simp only [List.length_drop,List.length_take,List.length_append,List.length_cons,List.length_nil]; omega))) V fun w V=>Q<|zad (v:=.tuple #[.int .u32 _,.bool _]) rfl<|Q<|Ex (.int .u32 _) rfl rfl<|Q<|Ex (.bool _) rfl rfl<|AU rfl<|AB rfl ?_
 refine NSR<|MB Z<|G<|zaQ Z (fun g1=>?_) (fun g1=>?_)
 ·obtain ⟨n0, hn0⟩ := zhu g1
  have hpr:=zho hn0
  refine SR<|MU Z<|AU Z<|AI Z<|G<|zaq func40 Z (TP (v:=.int .u32 _) Z) (TP (v:=.int .i64 _) Z) ?_
  rw [zgi hn0,hpr.2.1]
  exact ⟨Z,V.pure⟩
 have hpn:=znn g1
 refine zag<|SQ<|SR<|MS Z<|Q (zaE (v1:=str _) (v2:=str _) zua Z Z Z ((znh s [45] _).mono fun v w hp=>?_))
 rcases hp with ⟨hm0,rfl,hp⟩ | ⟨hm0,rfl,hp⟩
 ·replace V := V.keepc hp
  have hm:=take1 hm0
  have hm45:(45:UInt8).toNat = 45:=rfl
  have hcl:([45]:Tx).length = 1:=rfl
  rw [hm45] at hm
  refine Q<|zad (v:=.tuple #[str _,.bool _]) rfl<|Q<|Ex (str _) rfl rfl<|Q<|Ex (.bool _) rfl rfl<|AS rfl<|AB rfl<|NSR<|MB rfl<|G<|zas (Vb (rfl:true = _))<|SR<|MS rfl<|Q<|zao (v1:=str _) zwv rfl rfl<|Ret.det (zgw _ _ (V.hD _ Q0) (by first | omega | (simp only [List.length_drop,List.length_take,List.length_append,List.length_cons,List.length_nil]; omega))) V fun w V=>?_
  refine Q<|zad (v:=.tuple #[.int .u32 _,.bool _]) Z<|Q<|Ex (.int .u32 _) Z Z<|Q<|Ex (.bool _) Z Z<|AU Z<|AB Z<|G<|zaj [(0,str _),(8,.int .u32 _),(9,.bool _)] E3 fun f=>SR<|MB Z<|MB Z<|zcg (d:=33) Z (fun g2=>?_) (fun g2=>?_)
  ·obtain ⟨m, hm0m⟩ := zhu g2
   have hmm:zba (s.drop 1) = some m:=hm0m
   have hpm:puV (s.drop ([45]:Tx).length) = m:=(zho hm0m).2.1
   refine TK (t:=33) Z (Vb g2)<|zad (v:=.int .u32 _) Z<|TK (t:=33) Z (Vb g2)<|zbh Z Z<|Q<|zaB (u:=.bool _) (Vb g2) Z<|MB Z<|zau (d:=37) Z (fun g3=>?_) (fun g3=>?_)
   ·refine TK (t := 37) Z (Vb (Dt g3)) <| zad (v := .int .u32 _) Z <| TK (t := 37) Z (Vb (Dt g3)) <| zbU Z Z <| Q <| zaB (u := .bool _) (Vb (Dt g3)) Z <| G <| zab Z (fun g4 => ?_) (fun g4 => ?_)
    ·refine SR <| MU Z ?_
     first | refine Q (zw6 rfl rfl zsa ?_) | refine Q (zyN rfl ?_)
     refine AU Z<|AI Z<|G<|zaq func40 Z (TP (v:=.int .u32 _) Z) (TP (v:=.int .i64 _) Z) ?_
     have hq:(1:Int) ≤ (m:Int) ∧ (m:Int) ≤ 2147483648:=by omega
     rw [zoW hpn hm hmm (by omega)]
     have hw:=zv2 (m:=m) O
     rw [hpm,hw]
     exact ⟨Z,V.pure⟩
    refine zag<|SQ<|SR<|MS Z<|Q (zaE (v1:=str _) (v2:=str _) zua Z Z Z ((znh s [48,120] _).mono fun v w hp=>?_))
    rcases hp with ⟨hx0,rfl,hp⟩ | ⟨hx0,rfl,hp⟩
    ·have hx := zvJ hx0
     have hx48:(48:UInt8).toNat = 48:=rfl
     have hx120:(120:UInt8).toNat = 120:=rfl
     rw [hx48,hx120] at hx
     exfalso; omega
    ·replace V := V.keepc hp
     have hx:=ziI hx0
     have hx48:(48:UInt8).toNat = 48:=rfl
     have hx120:(120:UInt8).toNat = 120:=rfl
     rw [hx48,hx120] at hx
     refine Q<|zad (v:=.tuple #[str _,.bool _]) Z<|Q<|Ex (str _) Z Z<|Q<|Ex (.bool _) Z Z<|AS Z<|AB Z<|NSR<|MB Z<|MB Z<|OM (t:=49) Z (Vb (Z:false = _)) Z<|OM (t:=49) Z (Vb (Z:false = _)) Z<|OM (t:=49) Z (Vb (Z:false = _)) Z<|Q<|zax (u:=.bool _) (Vb (Z:false = _)) Z<|MB Z ?_
     refine OM (t:=54) Z (Vb (Z:false = _)) Z<|OM (t:=54) Z (Vb (Z:false = _)) Z<|OM (t:=54) Z (Vb (Z:false = _)) Z<|OM (t:=54) Z (Vb (Z:false = _)) Z<|Q<|zax (u:=.bool _) (Vb (Z:false = _)) Z<|G<|zaj [(10,str _),(59,.bool _)] E2 fun f=>zal (Vb (Z:false = _))<|zag<|SR<|AU Z<|AI Z<|G<|zaq func40 Z (TP (v:=.int .u32 _) Z) (TP (v:=.int .i64 _) Z) ?_
     rw [zeC hpn hm (fun n hn=>by rw [hmm] at hn; cases hn; omega)]
     exact ⟨Z,V.pure⟩
   refine OM (t:=37) Z (Vb (Df g3)) Z<|OM (t:=37) Z (Vb (Df g3)) Z<|Q<|zax (u:=.bool _) (Vb (Df g3)) Z<|G<|zal (Vb (Z:false = _))<|zag<|SQ<|SR<|MS Z<|Q (zaE (v1:=str _) (v2:=str _) zua Z Z Z ((znh s [48,120] _).mono fun v w hp=>?_))
   rcases hp with ⟨hx0,rfl,hp⟩ | ⟨hx0,rfl,hp⟩
   ·have hx := zvJ hx0
    have hx48:(48:UInt8).toNat = 48:=rfl
    have hx120:(120:UInt8).toNat = 120:=rfl
    rw [hx48,hx120] at hx
    exfalso; omega
   ·replace V := V.keepc hp
    have hx:=ziI hx0
    have hx48:(48:UInt8).toNat = 48:=rfl
    have hx120:(120:UInt8).toNat = 120:=rfl
    rw [hx48,hx120] at hx
    refine Q<|zad (v:=.tuple #[str _,.bool _]) Z<|Q<|Ex (str _) Z Z<|Q<|Ex (.bool _) Z Z<|AS Z<|AB Z<|NSR<|MB Z<|MB Z<|OM (t:=49) Z (Vb (Z:false = _)) Z<|OM (t:=49) Z (Vb (Z:false = _)) Z<|OM (t:=49) Z (Vb (Z:false = _)) Z<|Q<|zax (u:=.bool _) (Vb (Z:false = _)) Z<|MB Z ?_
    refine OM (t:=54) Z (Vb (Z:false = _)) Z<|OM (t:=54) Z (Vb (Z:false = _)) Z<|OM (t:=54) Z (Vb (Z:false = _)) Z<|OM (t:=54) Z (Vb (Z:false = _)) Z<|Q<|zax (u:=.bool _) (Vb (Z:false = _)) Z<|G<|zaj [(10,str _),(59,.bool _)] E2 fun f=>zal (Vb (Z:false = _))<|zag<|SR<|AU Z<|AI Z<|G<|zaq func40 Z (TP (v:=.int .u32 _) Z) (TP (v:=.int .i64 _) Z) ?_
    rw [zeC hpn hm (fun n hn=>by rw [hmm] at hn; cases hn; omega)]
    exact ⟨Z,V.pure⟩
  have hmn:zba (s.drop 1) = none:=znn g2
  refine OM (t:=33) Z (Vb g2) Z<|OM (t:=33) Z (Vb g2) Z<|Q<|zax (u:=.bool _) (Vb g2) Z<|MB Z<|OM (t:=37) Z (Vb (Z:false = _)) Z<|OM (t:=37) Z (Vb (Z:false = _)) Z<|Q<|zax (u:=.bool _) (Vb (Z:false = _)) Z<|G<|zal (Vb (Z:false = _))<|zag<|SQ<|SR<|MS Z<|Q (zaE (v1:=str _) (v2:=str _) zua Z Z Z ((znh s [48,120] _).mono fun v w hp=>?_))
  rcases hp with ⟨hx0,rfl,hp⟩ | ⟨hx0,rfl,hp⟩
  ·have hx := zvJ hx0
   have hx48:(48:UInt8).toNat = 48:=rfl
   have hx120:(120:UInt8).toNat = 120:=rfl
   rw [hx48,hx120] at hx
   exfalso; omega
  ·replace V := V.keepc hp
   have hx:=ziI hx0
   have hx48:(48:UInt8).toNat = 48:=rfl
   have hx120:(120:UInt8).toNat = 120:=rfl
   rw [hx48,hx120] at hx
   refine Q<|zad (v:=.tuple #[str _,.bool _]) Z<|Q<|Ex (str _) Z Z<|Q<|Ex (.bool _) Z Z<|AS Z<|AB Z<|NSR<|MB Z<|MB Z<|OM (t:=49) Z (Vb (Z:false = _)) Z<|OM (t:=49) Z (Vb (Z:false = _)) Z<|OM (t:=49) Z (Vb (Z:false = _)) Z<|Q<|zax (u:=.bool _) (Vb (Z:false = _)) Z<|MB Z ?_
   refine OM (t:=54) Z (Vb (Z:false = _)) Z<|OM (t:=54) Z (Vb (Z:false = _)) Z<|OM (t:=54) Z (Vb (Z:false = _)) Z<|OM (t:=54) Z (Vb (Z:false = _)) Z<|Q<|zax (u:=.bool _) (Vb (Z:false = _)) Z<|G<|zal (Vb (Z:false = _))<|zag<|SR<|AU Z<|AI Z<|G<|zaq func40 Z (TP (v:=.int .u32 _) Z) (TP (v:=.int .i64 _) Z) ?_
   rw [zeC hpn hm (fun n hn=>by rw [hmn] at hn; cases hn)]
   exact ⟨Z,V.pure⟩
 ·replace V := V.keepc hp
  have hm:=zvK hm0
  have hm45:(45:UInt8).toNat = 45:=rfl
  rw [hm45] at hm
  refine Q<|zad (v:=.tuple #[str _,.bool _]) Z<|Q<|Ex (str _) Z Z<|Q<|Ex (.bool _) Z Z<|AS Z<|AB Z<|NSR<|MB Z<|G<|zal (Vb (Z:false = _))<|zag<|SQ<|SQ<|RG ?_
  refine MS Z<|Q (zaE (v1:=str _) (v2:=str _) zua Z Z Z ((znh s [48,120] _).mono fun v w hp=>?_))
  rcases hp with ⟨hx0,rfl,hp⟩ | ⟨hx0,rfl,hp⟩
  ·replace V := V.keepc hp
   have hx:=zvJ hx0
   have hx48:(48:UInt8).toNat = 48:=rfl
   have hx120:(120:UInt8).toNat = 120:=rfl
   rw [hx48,hx120] at hx
   have hcl2:([48,120]:Tx).length = 2:=rfl
   refine Q<|zad (v:=.tuple #[str _,.bool _]) Z<|Q<|Ex (str _) Z Z<|Q<|Ex (.bool _) Z Z<|AS Z<|AB Z<|G<|zaj [(10,str _),(11,.bool _)] E2 fun f=>SR<|MB Z<|MB Z<|TK (t:=49) Z (Vb (Z:true = _))<|zad (v:=str _) Z<|TK (t:=49) Z (Vb (Z:true = _))<|zbb (rest:=[]) ty9 Z<|TK (t:=49) Z (Vb (Z:true = _))<|zbU Z Z<|Q (zaB (u:=.bool _) (Vb (Z:true = _)) Z ?_)
   refine MB Z<|zau (d:=54) Z (fun g5=>?_) (fun g5=>?_)
   ·refine TK (t := 54) rfl (Vb (Dt g5)) <| zad (v := str _) rfl <| TK (t := 54) rfl (Vb (Dt g5)) (zao (v1 := str _) zrZ rfl rfl ((zgv _ _ (by first | omega | (simp only [List.length_drop]; omega))).mono fun v w hp => ?_))
    obtain ⟨rfl,hp⟩:=hp
    replace V:=V.keepc hp
    refine TK (t:=54) Z (Vb (Dt g5))<|zad (v:=str _) Z<|TK (t:=54) Z (Vb (Dt g5))<|zcu Z Z<|Q<|zaB (u:=.bool _) (Vb (Dt g5)) Z<|G<|zab Z (fun g6=>?_) (fun g6=>?_)
    ·have hd2 : (s.drop ([48, 120] : Tx).length).length = s.length - 2 := List.length_drop
     have hd3:(s.drop 2).length = s.length - 2:=List.length_drop
     have hl8:(s.drop 2).length ≤ 8:=by omega
     refine SR<|MS Z<|Q (zbj (v1:=str _) (v2:=.int .i64 _) (v3:=.int .i64 _) ent86 Z Z Z Z ((zuO (s.drop 2) hl8 _ (V.hD _ Q0)).mono fun v w hp=>?_))
     replace hp:=or_and_right.1 hp
     rcases hp with ⟨⟨n,hne,hn,rfl⟩,hp⟩ | ⟨⟨hno,N,rfl⟩,hp⟩
     ·replace V := V.keepc hp
      have hru:=ziV _ _ _ hn
      have hnb:=ztY hn hl8
      refine Q<|zad (v:=.tuple #[.int .u64 _,.nilIface]) Z<|Q<|Ex (.int .u64 _) Z Z<|Q<|Ex (.nilIface) Z Z<|Q<|zap (v:=.int .u64 _) Z<|Q<|zap (v:=.nilIface) Z<|G<|zaj [(10,str _),(12,.int .u64 _),(13,.nilIface)] E3 fun f=>SR<|Q<|zad (v:=.nilIface) Z<|Q<|zoo zq7 Z Z<|MB Z<|TK (t:=67) Z (Vb (Z:true = _))<|zad (v:=str _) Z<|TK (t:=67) Z (Vb (Z:true = _)) (zaE (v1:=str _) (v2:=.int .u8 _) ent87 Z Z Z ((lx_IB (s.drop 2) 95 _).mono fun v w hp=>?_))
      obtain ⟨he,hp⟩:=hp
      replace he:=he.trans ((by rw [show (95:Int).toNat.toUInt8 = 95 from rfl,hru.2]:_ = Value.int .i64 (-1)))
      subst he
      replace V:=V.keepc hp
      refine TK (t:=67) Z (Vb (Z:true = _))<|zaN Z Z<|Q<|zaB (u:=.bool _) (Vb (Z:true = _)) Z<|G<|zab Z (fun g7=>?_) (fun g7=>?_)
      ·refine SR <| Q (zad (v := .int .u64 _) Z ?_)
       first | refine Q (zaS zca za9 rfl zsa ?_) | refine Q (za0 zca za9 rfl ?_)
       refine AU Z<|AI Z<|G<|zaq func40 Z (TP (v:=.int .u32 _) Z) (TP (v:=.int .i64 _) Z) ?_
       have hd2:(s.drop 2).length = s.length - 2:=List.length_drop
       rw [zqk hpn (by omega) (by omega) hn]
       exact ⟨Z,V.pure⟩
      exfalso
      omega
     ·replace V := V.keepc hp
      refine Q<|zad (v:=.tuple #[.int .u64 _,.iface _ _]) Z<|Q<|Ex (.int .u64 _) Z Z<|Q<|Ex (.iface _ _) Z Z<|Q<|zap (v:=.int .u64 _) Z<|Q<|zap (v:=.iface _ _) Z<|G<|zaj [(10,str _),(12,.int .u64 _),(13,.iface _ _)] E3 fun f=>SR<|Q<|zad (v:=.iface _ _) Z<|Q<|zop zq7 Z Z<|MB Z<|OM (t:=67) Z (Vb (Z:false = _)) Z<|OM (t:=67) Z (Vb (Z:false = _)) Z<|OM (t:=67) Z (Vb (Z:false = _)) Z ?_
      refine Q<|zax (u:=.bool _) (Vb (Z:false = _)) Z<|G<|zal (Vb (Z:false = _))<|zag<|SR<|AU Z<|AI Z<|G<|zaq func40 Z (TP (v:=.int .u32 _) Z) (TP (v:=.int .i64 _) Z) ?_
      have hd2:(s.drop 2).length = s.length - 2:=List.length_drop
      rw [zfP hpn hx (by rcases hno with h0 | h0; exact .inr (.inl (by omega)); exact .inr (.inr h0))]
      exact ⟨Z,V.pure⟩
    refine zag<|SR<|AU Z<|AI Z<|G<|zaq func40 Z (TP (v:=.int .u32 _) Z) (TP (v:=.int .i64 _) Z) ?_
    rw [zfP hpn hx (.inr (.inr (by cases hq:zcX (s.drop 2) 0 with | none=>rfl | some n=>exact absurd (ziV _ _ _ hq).1 g6)))]
    exact ⟨Z,V.pure⟩
   refine OM (t:=54) Z (Vb (Df g5)) Z<|OM (t:=54) Z (Vb (Df g5)) Z<|OM (t:=54) Z (Vb (Df g5)) Z<|OM (t:=54) Z (Vb (Df g5)) Z<|Q<|zax (u:=.bool _) (Vb (Df g5)) Z<|G<|zal (Vb (Z:false = _))<|zag<|SR<|AU Z<|AI Z<|G<|zaq func40 Z (TP (v:=.int .u32 _) Z) (TP (v:=.int .i64 _) Z) ?_
   have hd2:(s.drop ([48,120]:Tx).length).length = s.length - 2:=List.length_drop
   rw [zfP hpn hx (.inl (by omega))]
   exact ⟨Z,V.pure⟩
  ·replace V := V.keepc hp
   have hx:=ziI hx0
   have hx48:(48:UInt8).toNat = 48:=rfl
   have hx120:(120:UInt8).toNat = 120:=rfl
   rw [hx48,hx120] at hx
   refine Q<|zad (v:=.tuple #[str _,.bool _]) Z<|Q<|Ex (str _) Z Z<|Q<|Ex (.bool _) Z Z<|AS Z<|AB Z<|G<|zaj [(10,str _),(11,.bool _)] E2 fun f=>SR<|MB Z<|MB Z<|OM (t:=49) Z (Vb (Z:false = _)) Z<|OM (t:=49) Z (Vb (Z:false = _)) Z<|OM (t:=49) Z (Vb (Z:false = _)) Z<|Q (zax (u:=.bool _) (Vb (Z:false = _)) Z ?_)
   refine MB Z<|OM (t:=54) Z (Vb (Z:false = _)) Z<|OM (t:=54) Z (Vb (Z:false = _)) Z<|OM (t:=54) Z (Vb (Z:false = _)) Z<|OM (t:=54) Z (Vb (Z:false = _)) Z<|Q<|zax (u:=.bool _) (Vb (Z:false = _)) Z<|G<|zal (Vb (Z:false = _))<|zag<|SR<|AU Z<|AI Z<|G<|zaq func40 Z (TP (v:=.int .u32 _) Z) (TP (v:=.int .i64 _) Z) ?_
   rw [ziP hpn (by omega) (by omega)]
   exact ⟨Z,V.pure⟩
end Go.SK
namespace Go.SK
open Go Go.Proofs Go.Proofs.Tryz
theorem zpe:zaG prog 40:=⟨f40,_,func40,Kr,rfl⟩
open Go.RowKit
theorem zn8 (s:Tx) (w:World) (hG:LxG.holds w) (hl:s.length ≤ 140737488355327):Ret prog 184 #[str s] w (fun v w'=>v = zx8 (ziB s) ∧ St w NoM [] [] w'):=by
 refine zav (args:=[str s]) func184 Z Z Z ?_
 have V:St w NoM [] [LxG] w:=St.init_Ds (by simp only [List.forall_mem_cons]; exact ⟨hG,fun _ h=>absurd h List.not_mem_nil⟩)
 have hidx0:(s.getD ((0:Int).toNat) 0).toNat = (s.getD 0 0).toNat:=rfl
 have h48:(za3 ([48] ++ s.take ((3:Int).toNat))).2 = (za3 ([48] ++ s.take 3)).2:=rfl
 refine SR<|AC Z<|AI Z<|G<|SQ<|zak<|SR<|MS Z<|Q<|zcu Z Z<|AB Z<|G<|zab Z (fun g1=>?_) (fun g1=>?_)
 ·refine zag <| zah <| SR <| AC Z <| AI Z <| G <| zaq func184 Z (TP (v := .int .u8 _) Z) (TP (v := .int .i64 _) Z) ?_
  subst g1
  exact ⟨Z,V.pure⟩
 have hpos:0 < s.length:=by rcases Nat.eq_zero_or_pos s.length with h0 | h0; exact absurd (List.length_eq_zero_iff.1 h0) g1; exact h0
 refine SQ<|SR<|MS Z<|Q<|za5 ty9 Z Z O O<|Q<|zam Z Z<|AB Z<|G<|zab Z (fun g2=>?_) (fun g2=>?_)
 ·refine zag <| zas (Vb (Dt g2)) <| SR <| MS Z <| Q <| za5 ty9 Z Z O O <| AC Z <| AI Z <| G <| zaq func184 Z (TP (v := .int .u8 _) Z) (TP (v := .int .i64 _) Z) ?_
  rw [zqy (by omega) (by omega)]
  exact ⟨Z,V.pure⟩
 refine RG<|MS Z<|Q<|za5 ty9 Z Z O O<|Q<|zam Z Z<|AB Z<|G<|zab Z (fun g3=>?_) (fun g3=>?_)
 ·refine SR <| MS Z <| Q <| za5 ty9 Z Z O O <| AC Z <| AI Z <| G <| zaq func184 Z (TP (v := .int .u8 _) Z) (TP (v := .int .i64 _) Z) ?_
  rw [zqy (by omega) (by omega)]
  exact ⟨Z,V.pure⟩
 refine SR<|MS Z<|Q<|za5 ty9 Z Z O O<|Q<|zam Z Z<|MB Z<|zau (d:=22) Z (fun g4=>?_) (fun g4=>?_)
 ·refine TK (t := 22) Z (Vb (Dt g4)) <| zad (v := str _) Z <| TK (t := 22) Z (Vb (Dt g4)) <| zbb (rest := []) ty9 Z <| TK (t := 22) Z (Vb (Dt g4)) <| zbh Z Z <| Q <| zaB (u := .bool _) (Vb (Dt g4)) Z <| AB Z <| G <| zaj [(0, str _), (18, .bool _)] E2 fun f => zab Z (fun g5 => ?_) (fun g5 => ?_)
  ·refine SR <| MS rfl <| Q <| zdw ty9 rfl rfl (by omega) (by omega) <| Q <| zi7 rfl rfl (by first | omega | (simp only [List.length_cons, List.length_nil, List.length_append]; omega) | (simp; omega)) <| Q <| zao (v1 := str _) zpe rfl rfl <| Ret.det (zc2 _ _ (V.hD _ Q0) (by simp only [List.length_append, List.length_take, List.length_singleton]; omega)) V fun w V => Q <| zad (v := .tuple #[.int .u32 _, .int .i64 _]) rfl <| Q <| Ex (.int .u32 _) rfl rfl <| Q <| Ex (.int .i64 _) rfl rfl <| AU rfl <| AI rfl <| NSR <| MI rfl ?_
   refine Q<|zam Z Z<|G<|zab Z (fun g6=>?_) (fun g6=>?_)
   ·have hq0 : (za3 ([48] ++ s.take ((3 : Int).toNat))) = za3 ([48] ++ s.take 3) := rfl
    have hn0:(za3 ([48] ++ s.take 3)).2 = 0:=by have:=g6; omega
    have heb:=(zt5 (r:=s) O O hn0).2
    have heb2:(za3 ([48] ++ s.take ((3:Int).toNat))).1 = (za3 ([48] ++ s.take 3)).1:=rfl
    refine SR<|MU Z ?_
    first | refine Q (zaS za9 ty5 rfl Wu8 ?_) | refine Q (za0 za9 ty5 rfl ?_)
    refine AC Z<|AI Z<|G<|zaq func184 Z (TP (v:=.int .u8 _) Z) (TP (v:=.int .i64 _) Z) ?_
    have he:=zt5 (r:=s) O O hn0
    rw [he.1]
    exact ⟨zry he.2,V.pure⟩
   have hq0:(za3 ([48] ++ s.take ((3:Int).toNat))) = za3 ([48] ++ s.take 3):=rfl
   refine zag<|zah<|SR<|AC Z<|AI Z<|G<|zaq func184 Z (TP (v:=.int .u8 _) Z) (TP (v:=.int .i64 _) Z) ?_
   rw [zt4 (r:=s) (by omega) (by omega) (by omega)]
   exact ⟨Z,V.pure⟩
  refine zag<|zah<|SR<|AC Z<|AI Z<|G<|zaq func184 Z (TP (v:=.int .u8 _) Z) (TP (v:=.int .i64 _) Z) ?_
  rw [zxs (r:=s) (by omega) (by omega) (by omega)]
  exact ⟨Z,V.pure⟩
 refine OM (t:=22) Z (Vb (Df g4)) Z<|OM (t:=22) Z (Vb (Df g4)) Z<|OM (t:=22) Z (Vb (Df g4)) Z<|Q<|zax (u:=.bool _) (Vb (Df g4)) Z<|AB Z<|G<|zaj [(0,str _),(18,.bool _)] E2 fun f=>zal (Vb (Z:false = _))<|zag<|zah<|SR<|AC Z<|AI Z<|G ?_
 refine zaq func184 Z (TP (v:=.int .u8 _) Z) (TP (v:=.int .i64 _) Z) ?_
 rw [zxs (r:=s) (by omega) (by omega) (by omega)]
 exact ⟨Z,V.pure⟩
end Go.SK
namespace Go.SK
open Go Go.Proofs Go.Proofs.Tryz
theorem ent184:zaG prog 184:=⟨f184,_,func184,Kr,rfl⟩
end Go.SK
