/-
  Steps of functions, plain law, and walks of functions: what the laws rest on.
-/
import Derived.Test.YtglmmdpeenckbaaGreatDoorSkH0c
import Derived.Test.YtglmmdpeenckbaaGreatDoorSkH1a
import Derived.Test.YtglmmdpeenckbaaGreatDoorSkH2a
set_option linter.unusedVariables false
set_option linter.unusedSimpArgs false
set_option linter.unusedSectionVars false
namespace Go.SK
open Go.RowKit
section
variable {w0 w w' : World} {M : Nat → Prop} {L L' D : List Res} {r r' : Res}
theorem St.freeze (h : St w0 M L D w) (hr : Rem r L L') : St w0 M L' (r :: D) w where
  kept := h.kept
  hL := fun s hs => h.hL s (hr.sub s hs)
  hD := fun s hs => by cases hs with
    | head => exact h.hL r hr.mem
    | tail _ hs => exact h.hD s hs
  new := fun s hs => h.new s (hr.sub s hs)
  sep := (hr.apart h.sep).1
  sepD := fun s hs d hd => by cases hd with
    | head => exact ((hr.apart h.sep).2 s hs).symm
    | tail _ hd => exact h.sepD s (hr.sub s hs) d hd
end
end Go.SK
namespace Go.SK
open Go.RowKit
theorem St.objD {w0 w : World} {M : Nat → Prop} {L D : List Res} {b : Nat} {o : Obj} (h : St w0 M L D w) (hm : Res.obj b o ∈ D) : w.heap[b]? = some o := h.hD _ hm
end Go.SK
namespace Go.SK
open Go.RowKit
section
variable {P : Program} {ty : TypeId} {ρ : Operand → Value} {w0 w : World} {C : Value → World → Prop} {M : Nat → Prop} {L L' D : List Res}
variable {T e : TypeId} {de : TypeDesc} {d : TypeDesc} {sz bytes es eb : Nat} {zs ez : List Value} {ao : Option Addr} {n cap : Nat} {xs : List Value}
theorem zru {x y : Operand} {T T2 : TypeId} {k k2 : IntKind} {a c : Int} {s : Int} (hx : ρ x = .int k a) (hy : ρ y = .int k2 s) (h0 : 0 ≤ s) (hs : s.toNat ≤ k.bits) (hc : a / 2 ^ s.toNat = c) (h : C (.int k c) w) : Op1 P (.binOp .shr T x y T2) ty ρ w C := by
  have hn : ¬ s < 0 := by omega
  refine Inv.value (v := .int k c) (w' := w) ?_ h
  have hr : (binOp .shr T (.int k a) (.int k2 s)).run P w = .ok (.int k c) w := by
    have hp : (0 : Int) ≤ 2 ^ s.toNat := Int.le_of_lt (Int.pow_pos Om)
    simp only [binOp, Op.shift, hn, if_false, Nat.min_eq_left hs]
    simp [← hc, Int.fdiv_eq_ediv_of_nonneg _ hp]
  simp only [execOp, hx, hy]
  simp [eqGuard, hr]
end
end Go.SK
namespace Go.SK
open Go.RowKit Go.ChangeShapes Go.WideShapes Go.ChangeAt
theorem zuw {α : Type} (d : α) (l : List α) : cpG d l l.length l.length = l := by simp [cpG]
theorem zuv {α : Type} {d : α} {l : List α} {n i : Nat} (hi : i < l.length) (hn : i < n) : (cpG d l n i).set i (l.getD i d) = cpG d l n (i + 1) := by
  unfold cpG
  have e : l.getD i d = l[i] := by simp [List.getD, hi]
  rw [e, List.set_append_right _ _ (by simp; omega), List.length_take, Nat.min_eq_left (by omega), Nat.sub_self, show n - i = (n - (i + 1)) + 1 by omega, List.replicate_succ, List.set_cons_zero, List.take_succ_eq_append_getElem hi, List.append_assoc]
  rfl
theorem zrf {α : Type} {g : α → List Value} {es : Nat} (hg : ∀ a, (g a).length = es) {d : α} {l : List α} {i : Nat} {x : List Value} (hi : i < l.length) (hx : x = g (l.getD i d)) : zcj ((cpG d l l.length i).flatMap g) (0 + (i : Int).toNat * es) x = (cpG d l l.length (i + 1)).flatMap g := by
  subst hx
  rw [Nat.zero_add, Int.toNat_natCast, zez hg _ _ _ (by simp [cpG]; omega), zuv hi hi]
end Go.SK
namespace Go.SK
open Go.RowKit Go.ChangeShapes Go.WideShapes Go.ChangeAt
section
variable {P : Program} {ty : TypeId} {ρ : Operand → Value} {w : World} {C : Value → World → Prop} {T T2 : TypeId} {x y : Operand} {sz bytes : Nat} {zs : List Value} {e : TypeId}
theorem zwe {a : Addr} (hT : TyF P T (.pointer e) sz bytes zs) : (Op.equal T (.pointer (some a)) (.pointer none)).run P w = .ok false w := by
  show (Op.equalIn (9999 + 1) T (.pointer (some a)) (.pointer none)).run P w = _
  rw [Op.equalIn]
  simp [Sem.run_bind, hT.run_und, Result.andThen]
theorem zvc {a : Addr} (hT : TyF P T (.pointer e) sz bytes zs) (hx : ρ x = .pointer (some a)) (hy : ρ y = .pointer none) (h : C (.bool false) w) : Op1 P (.binOp .eql T x y T2) ty ρ w C := by
  refine zco (v := .bool false) (w' := w) ?_ h
  simp only [execOp, hx, hy, eqGuard]
  simp [binOp, zwe hT, Result.andThen]
end
end Go.SK
namespace Go.SK
open Go.RowKit Go.ChangeShapes Go.WideShapes Go.ChangeAt
theorem Res.sl_cap {ao : Option Addr} {n cap : Nat} {e : TypeId} {es : Nat} {xs : List Value} {w : World} (h : (Res.sl ao n cap e es xs).holds w) : n ≤ cap := by
  rcases h.2 with ⟨hv, h0⟩ | ⟨g, cc, cur, hv, hb0, hg, hnc, hrest⟩
  · omega
  · cases hv; exact hnc
end Go.SK
namespace Go.SK
open Go.RowKit Go.ChangeShapes Go.WideShapes Go.ChangeAt
theorem St.rowSl {w0 w : World} {M : Nat → Prop} {L D : List Res} {b n es : Nat} {e : TypeId} {xs : List Value} (hst : St w0 M (Res.row b e xs :: L) D w) (hl : xs.length = n * es) (hn : n ≤ maxLen) : St w0 M (Res.sl (some ⟨b, 0, none⟩) n n e es xs :: L) D w := by
  have hr : (Res.row b e xs).holds w := hst.hL _ (.head _)
  refine hst.upd .here (Kept.refl _ _) ⟨hl, .inr ⟨b, n, xs.toArray, rfl, Nat.zero_le _, hr, Nat.le_refl _, hn, by simp [hl], by rw [List.toList_toArray, List.take_of_length_le (by omega)]⟩⟩ (fun b' hb => .inl ?_)
  have h : some b = some b' := hb
  cases h
  rfl
end Go.SK
namespace Go.SK
theorem zqU (c : Int) : 0 ≤ zbZ c ∧ zbZ c ≤ 4 := by
  unfold zbZ
  repeat (split; · omega)
  omega
theorem zkk : namesL.all (fun x => decide (namesL.find? (enS x.letter x.name) = some x) && decide (zkX zfq x.letter ≠ [] ∧ zbZ x.letter = 4)) = true := by decide +kernel
theorem zod {c n : Int} {x : NameL} (h : namesL.find? (enN c n) = some x) : x.letter = c ∧ x.n = n ∧ namesL.find? (enS c x.name) = some x ∧ zbZ c = 4 := by
  have h1 : x.letter = c ∧ x.n = n := by simpa using List.find?_some h
  have := List.all_eq_true.1 zkk x (List.mem_of_find?_eq_some h)
  simp only [Bool.and_eq_true, decide_eq_true_eq] at this
  obtain ⟨h2, h3, h4⟩ := this
  rw [h1.1] at h2 h4
  exact ⟨h1.1, h1.2, h2, h4⟩
end Go.SK
namespace Go.SK
open Go.RowKit
theorem rg21 : List.range 21 = [0, 1, 2, 3, 4, 5, 6, 7, 8, 9, 10, 11, 12, 13, 14, 15, 16, 17, 18, 19, 20] := rfl
end Go.SK
namespace Go.SK
def wrR : List TokL → Option Tx
  | [] => some []
  | t :: r => (wrT t).bind fun a => (wrR r).map fun b => 32 :: (a ++ b)
def wrF : List TokL → Option Tx
  | [] => some []
  | t :: r => (wrT t).bind fun a => (wrR r).map fun b => a ++ b
end Go.SK
namespace Go.SK
open Go Go.Proofs Go.Shelf
def zhi : Go.Shelf.Ren := ⟨fun | 156 => 116 | 165 => 166 | 166 => 95 | 169 => 51 | 240 => 150 | 241 => 204 | 276 => 194 | 277 => 224 | n => n, fun | 31 => 155 | 9 => 9 | 3 => 3 | 4 => 4 | 0 => 0 | 20 => 20 | 72 => 90 | 76 => 164 | 70 => 88 | 37 => 38 | 75 => 151 | 127 => 169 | 164 => 255 | 5 => 5 | 80 => 97 | n => n, fun | n => n⟩
theorem zlx : Go.Proofs.Lays.n156 Tryz.prog zhi := {
 mixed := by kernel_rfl
 f156 := Tryz.func116.trans (congrArg some Kr)
 f165 := Tryz.func166.trans (congrArg some Kr)
 f166 := Tryz.func95.trans (congrArg some Kr)
 f169 := Tryz.func51.trans (congrArg some Kr)
 f240 := Tryz.func150.trans (congrArg some Kr)
 f241 := Tryz.func204.trans (congrArg some Kr)
 f276 := Tryz.func194.trans (congrArg some Kr)
 f277 := Tryz.func224.trans (congrArg some Kr)
 t0 := Tryz.underlying0
 a0 := Tryz.isAgg0
 z0 := Tryz.sizeOf0
 v0 := Tryz.zeroValue0
 t3 := Tryz.underlying3
 a3 := Tryz.isAgg3
 z3 := Tryz.sizeOf3
 v3 := Tryz.zeroValue3
 t4 := Tryz.underlying4
 a4 := Tryz.isAgg4
 z4 := Tryz.sizeOf4
 v4 := Tryz.zeroValue4
 t9 := Tryz.underlying9
 a9 := Tryz.isAgg9
 z9 := Tryz.sizeOf9
 v9 := Tryz.zeroValue9
 t20 := Tryz.underlying20
 a20 := Tryz.isAgg20
 z20 := Tryz.sizeOf20
 v20 := Tryz.zeroValue20
 t31 := Tryz.underlying155
 a31 := Tryz.isAgg155
 z31 := Tryz.sizeOf155
 v31 := Tryz.zeroValue155
 t37 := Tryz.underlying38
 a37 := Tryz.isAgg38
 z37 := Tryz.sizeOf38
 v37 := Tryz.zeroValue38
 t70 := Tryz.underlying88
 a70 := Tryz.isAgg88
 z70 := Tryz.sizeOf88
 v70 := Tryz.zeroValue88
 t72 := Tryz.underlying90
 a72 := Tryz.isAgg90
 z72 := Tryz.sizeOf90
 v72 := Tryz.zeroValue90
 t75 := Tryz.underlying151
 a75 := Tryz.isAgg151
 z75 := Tryz.sizeOf151
 v75 := Tryz.zeroValue151
 t76 := Tryz.underlying164
 a76 := Tryz.isAgg164
 z76 := Tryz.sizeOf164
 v76 := Tryz.zeroValue164
 t127 := Tryz.underlying169
 a127 := Tryz.isAgg169
 z127 := Tryz.sizeOf169
 v127 := Tryz.zeroValue169
 t164 := Tryz.underlying255
 a164 := Tryz.isAgg255
 z164 := Tryz.sizeOf255
 v164 := Tryz.zeroValue255 }
theorem zkc : Builder.Extra Tryz.prog zhi := {
 sizeBuilder := by kernel_rfl
 liesBuilder := by kernel_rfl
 t5 := Tryz.underlying5
 a5 := Tryz.isAgg5
 z5 := Tryz.sizeOf5
 v5 := Tryz.zeroValue5
 infoByte := by kernel_rfl
 cellsByte := by kernel_rfl
 sizeByte := by kernel_rfl
 neB5 := by decide }
end Go.SK
namespace Go.SK
open Go Go.Proofs
open Go.RowKit
open Go.Shelf
theorem zpA (ao : Option Addr) (cp : Nat) (sep : Tx) (w : World) : Ret Tryz.prog 116 #[.slice ao 0 cp, str sep] w (fun v w' => v = str [] ∧ St w NoM [] [] w') :=
 zfZ (Any.strings_Join_none zlx zkc ao cp ⟨sep.toArray⟩ w)
theorem zxN (l : List Tx) (ao : Option Addr) (cp : Nat) (sep : Tx) (w : World) (hR : (Res.rs ao l.length 1 (l.flatMap fun s => [str s])).holds w) (hcp : l.length ≤ cp) (hn : l.length ≤ 140737488355328) (hl : (Lib.join l sep).length ≤ 140737488355328) : Ret Tryz.prog 116 #[.slice ao l.length cp, str sep] w (fun v w' => v = str (Lib.join l sep) ∧ St w NoM [] [] w') := by
 rcases Nat.eq_zero_or_pos l.length with h0 | h0
 ·obtain rfl := List.length_eq_zero_iff.1 h0
  exact zpA ao cp sep w
 ·obtain ⟨b, o, rfl⟩ := Res.rs_some hR h0
  have hm : (l.map fun s => ByteArray.mk s.toArray).map (·.data.toList) = l := by
   rw [List.map_map]; exact (List.map_congr_left (fun s _ => rfl)).trans (List.map_id l)
  have hlen : (l.map fun s => ByteArray.mk s.toArray).length = l.length := List.length_map _
  have := Any.strings_Join zlx zkc b o cp (l.map fun s => ⟨s.toArray⟩) ⟨sep.toArray⟩ w (fun j x hx => ?_) (hR |> fun h => (Res.rs (some ⟨b, o, none⟩) l.length 1 (l.flatMap fun s => [str s])).inb w h b ⟨by rw [zei (es := 1) (fun _ => rfl)]; omega, o, rfl⟩) (by rw [hlen]; exact hn) (by rw [hlen]; exact hcp) (by rw [hm]; exact hl)
  ·rw [hm, hlen] at this
   exact zpS this
  ·rw [List.getElem?_map, Option.map_eq_some_iff] at hx
   obtain ⟨s, hs, rfl⟩ := hx
   refine Res.rs_all hR j _ ?_
   have : ∀ l : List Tx, (l.flatMap fun s => [str s]) = l.map str := fun l => by
    induction l with
    | nil => rfl
    | cons a r ih => rw [List.flatMap_cons, ih]; rfl
   rw [this, List.getElem?_map, hs]; rfl
end Go.SK
namespace Go.SK
theorem zho {fm : FormL} {b : Int} {k : Nat} {a : ArgP} {l : List ArgP} (h : zb0 fm b k (a :: l) = 0) : zbN (zaP fm k) a b = 0 ∧ zb0 fm b (k + 1) l = 0 := by
  rw [zb0] at h
  split at h
  · rename_i h1; exact absurd h h1
  · rename_i h1; exact ⟨Nn h1, h⟩
theorem zjs {must : Bool} {n b e : Int} (he : e ≠ 0) (h : idH must n b e = 0) : (must = true → n ≠ 0 ∧ n < b) ∧ (must = false → n = 0) := by
  unfold idH at h
  split at h
  · exact absurd h he
  · rename_i h1
    have h1 := Nn h1
    split at h
    · cases h
    · rename_i h2
      refine ⟨fun hm => ?_, fun hm => ?_⟩
      · subst hm
        have hn : n ≠ 0 := of_decide_eq_true h1.symm
        exact ⟨hn, by have : ¬ n ≥ b := fun hx => h2 ⟨rfl, hx⟩; omega⟩
      · subst hm
        exact Nn (of_decide_eq_false h1.symm)
end Go.SK
namespace Go.SK
open Go.RowKit
section
variable {P : Program} {ty : TypeId} {ρ : Operand → Value} {w : World} {C : Value → World → Prop} {T T2 : TypeId}
theorem zwP {x y : Operand} {k : IntKind} {a b : Int} {m1 m2 : Nat} {c : Int} (hx : ρ x = .int k a) (hy : ρ y = .int k b) (ha : a = (m1 : Int)) (hb : b = (m2 : Int)) (h1 : m1 < 2 ^ k.bits) (h2 : m2 < 2 ^ k.bits) (hc : ((m1 &&& m2 : Nat) : Int) = c) (hw : k.wrap c = c) (h : C (.int k c) w) : Op1 P (.binOp .and T x y T2) ty ρ w C := by
  refine Op1.bits (v := .int k c) hx hy rfl ?_ h
  subst ha; subst hb; subst hc
  have e1 : (BitVec.ofInt k.bits (m1 : Int)).toNat = m1 := by
    rw [BitVec.toNat_ofInt]; rw [← Int.natCast_emod, Int.toNat_natCast]; exact Nat.mod_eq_of_lt h1
  have e2 : (BitVec.ofInt k.bits (m2 : Int)).toNat = m2 := by
    rw [BitVec.toNat_ofInt]; rw [← Int.natCast_emod, Int.toNat_natCast]; exact Nat.mod_eq_of_lt h2
  simp only [Op.intBits, BitVec.toNat_and, e1, e2, hw]
  rfl
theorem zo8 {x y : Operand} {a : Int} {m : Nat} (hx : ρ x = .int .u8 a) (hy : ρ y = .int .u8 15) (ha : a = (m : Int)) (hm : m < 256) (h : C (.int .u8 ((m % 16 : Nat) : Int)) w) : Op1 P (.binOp .and T x y T2) ty ρ w C := by
  have e : m &&& 15 = m % 16 := Nat.and_two_pow_sub_one_eq_mod m 4
  exact zwP (m1 := m) (m2 := 15) hx hy ha rfl hm (by decide) (by rw [e]) (zs2 (by omega) (by omega)) h
end
def qb (s : Tx) (i : Nat) : Tx := 34 :: (s.take i).flatMap zjl
theorem ze8 {s : Tx} {i : Nat} {x : Tx} (h : i < s.length) (hx : zjl (s.getD i 0) = x) : qb s (i + 1) = qb s i ++ x := by
  unfold qb
  have : s.take (i + 1) = s.take i ++ [s.getD i 0] := by
    rw [List.take_add_one]; simp [List.getD, h]
  rw [this, List.flatMap_append, List.flatMap_cons, List.flatMap_nil, List.append_nil, hx, List.cons_append]
theorem zqL (c : UInt8) : 1 ≤ (zjl c).length ∧ (zjl c).length ≤ 4 := by
  unfold zjl; split
  · simp
  · split <;> simp
theorem ztv (s : Tx) (i : Nat) : (qb s i).length ≤ 1 + 4 * i := by
  unfold qb
  have : ∀ l : Tx, (l.flatMap zjl).length ≤ 4 * l.length := fun l => by
    induction l with
    | nil => simp
    | cons c r ih => rw [List.flatMap_cons, List.length_append, List.length_cons]; have := (zqL c).2; omega
  have h2 := this (s.take i)
  rw [List.length_cons]; have := List.length_take_le i s; omega
theorem znC {s : Tx} {i : Nat} (h : s.length ≤ i) : qb s i ++ [34] = zd0 s := by
  unfold qb zd0; rw [List.take_of_length_le h, List.cons_append]
theorem zgP {c : UInt8} (h : c.toNat < 32 ∨ 126 < c.toNat) : zjl c = [92, 120, ziZ (c.toNat / 16), ziZ (c.toNat % 16)] := by unfold zjl; rw [if_pos h]
theorem zgQ {c : UInt8} (h : ¬ (c.toNat < 32 ∨ 126 < c.toNat)) (h2 : c.toNat = 34 ∨ c.toNat = 92) : zjl c = [92, c] := by unfold zjl; rw [if_neg h, if_pos h2]
theorem zjk {c : UInt8} (h : ¬ (c.toNat < 32 ∨ 126 < c.toNat)) (h2 : ¬ (c.toNat = 34 ∨ c.toNat = 92)) : zjl c = [c] := by unfold zjl; rw [if_neg h, if_neg h2]
theorem zmu : ∀ n < 16, ([48, 49, 50, 51, 52, 53, 54, 55, 56, 57, 97, 98, 99, 100, 101, 102] : Tx).getD n 0 = ziZ n := by decide
theorem znz (s : Tx) : (zd0 s).length ≤ 2 + 4 * s.length := by
  rw [← znC (Nat.le_refl s.length), List.length_append]; have := ztv s s.length; simp; omega
end Go.SK
namespace Go.SK
section
variable {t : TokL}
theorem zla (h : t.kind = 1) (hq : ¬ (t.text ≠ [] ∧ zfv (t.text.getD 0 0) = true ∧ zch t.text = t.text)) : wrT t = none := by
  unfold wrT; rw [if_pos h, if_neg (fun q => hq ⟨List.length_pos_iff.1 q.1, q.2⟩)]
theorem zwU (h : t.kind = 2) (h1 : ¬ (zbn t.text).isSome = true) : wrT t = none := by
  unfold wrT; rw [if_neg (by omega), if_pos h, if_neg h1]
theorem zwT (h : t.kind = 3) (h1 : ¬ (zba t.text).2 = 0) : wrT t = none := by
  unfold wrT; rw [if_neg (by omega), if_neg (by omega), if_pos h, if_neg h1]
theorem zwS (h : t.kind = 5) (h1 : ¬ t.text = [61]) : wrT t = none := by
  unfold wrT; rw [if_neg (by omega), if_neg (by omega), if_neg (by omega), if_neg (by omega), if_pos h, if_neg h1]
theorem wr_no (h1 : ¬ t.kind = 1) (h2 : ¬ t.kind = 2) (h3 : ¬ t.kind = 3) (h4 : ¬ t.kind = 4) (h5 : ¬ t.kind = 5) : wrT t = none := by
  unfold wrT; rw [if_neg h1, if_neg h2, if_neg h3, if_neg h4, if_neg h5]
theorem zqo {x : Tx} (h : wrT t = some x) : x.length + 1 ≤ 4 * t.text.length + 3 := by
  unfold wrT at h
  split at h
  · split at h
    · cases h; omega
    · cases h
  split at h
  · split at h
    · cases h; simp only [List.length_cons]; omega
    · cases h
  split at h
  · split at h
    · cases h; omega
    · cases h
  split at h
  · cases h; have := znz t.text; omega
  split at h
  · split at h
    · cases h; simp only [List.length_cons, List.length_nil]; omega
    · cases h
  · cases h
end
theorem zxI (a b : List Tx) : osz (a ++ b) = osz a + osz b := by
  induction a with
  | nil => simp [osz]
  | cons x r ih => rw [List.cons_append, osz, osz, ih]; omega
theorem join_cons (x y : Tx) (r : List Tx) : Lib.join (x :: y :: r) [32] = x ++ 32 :: Lib.join (y :: r) [32] := by
  unfold Lib.join; rw [List.intercalate_cons_cons]; simp
theorem zd3 (x : Tx) : Lib.join [x] [32] = x := Lib.join_one x [32]
theorem znW : Lib.join ([] : List Tx) [32] = [] := rfl
theorem zjr : ∀ l : List Tx, (Lib.join l [32]).length ≤ osz l
  | [] => Nat.zero_le _
  | [x] => by rw [zd3, osz, osz]; omega
  | x :: y :: r => by
    have := zjr (y :: r)
    rw [join_cons, osz, List.length_append, List.length_cons]; omega
theorem zqp : ∀ l : List TokL, wrR l = (wrL l).map fun x => x.flatMap fun a => 32 :: a
  | [] => rfl
  | t :: r => by
    rw [wrR, wrL]
    cases wrT t with
    | none => rfl
    | some a =>
      simp only [Option.bind_some]
      rw [zqp r]
      cases wrL r with
      | none => rfl
      | some b => simp
theorem zjc (l : List TokL) : wrF l = (wrL l).map fun x => Lib.join x [32] := by
  cases l with
  | nil => rfl
  | cons t r =>
    rw [wrF, wrL, zqp]
    cases wrT t with
    | none => rfl
    | some a =>
      simp only [Option.bind_some]
      cases wrL r with
      | none => rfl
      | some b =>
        simp only [Option.map_some]; congr 1
        have : ∀ (b : List Tx) (a : Tx), a ++ (b.flatMap fun x => 32 :: x) = Lib.join (a :: b) [32] := fun b => by
          induction b with
          | nil => intro a; rw [zd3]; simp
          | cons c q ih => intro a; rw [join_cons, ← ih c]; simp
        exact this b a
def wrI (l : List TokL) (i : Nat) (o : List Tx) : Prop := i ≤ l.length ∧ o.length = i ∧ osz o + wsz (l.drop i) ≤ wsz l ∧ wrL l = (wrL (l.drop i)).map (o ++ ·)
theorem zm8 (l : List TokL) : wrI l 0 [] := by
  refine ⟨Nat.zero_le _, rfl, by simp [osz], ?_⟩
  rw [List.drop_zero]; cases wrL l <;> simp
theorem zqm {l : List TokL} {i : Nat} {o : List Tx} (hI : wrI l i o) (h : i < l.length) : 4 * (l.getD i zaR).text.length + 3 + osz o ≤ wsz l := by
  have := zlW h; have := hI.2.2.1; omega
theorem zlY {l : List TokL} {i : Nat} {o : List Tx} {x : Tx} (hI : wrI l i o) (h : i < l.length) (hx : wrT (l.getD i zaR) = some x) : wrI l (i + 1) (o ++ [x]) := by
  refine ⟨h, by rw [List.length_append, List.length_singleton, hI.2.1], ?_, ?_⟩
  · have h1 := zlW h; have h2 := hI.2.2.1; have h3 := zqo hx
    rw [zxI, osz, osz]; omega
  · rw [hI.2.2.2, zie h, wrL, hx]
    cases wrL (l.drop (i + 1)) with
    | none => rfl
    | some b => simp
theorem zwR {l : List TokL} {i : Nat} {o : List Tx} (hI : wrI l i o) (h : i < l.length) (hx : wrT (l.getD i zaR) = none) : wrF l = none := by
  rw [zjc, hI.2.2.2, zie h, wrL, hx]; rfl
theorem zs5 {l : List TokL} {i : Nat} {o : List Tx} (hI : wrI l i o) (h : l.length ≤ i) : wrF l = some (Lib.join o [32]) := by
  rw [zjc, hI.2.2.2, List.drop_eq_nil_of_le h, wrL]; simp
end Go.SK
namespace Go.SK
def wrS (l : List TokL) : Tx := (wrF l).getD []
def wrE (l : List TokL) : Int := if (wrF l).isSome = true then 0 else 2
theorem zdX {l : List TokL} {x : Tx} (h : wrF l = some x) : wrS l = x ∧ wrE l = 0 := by unfold wrS wrE; rw [h]; exact ⟨rfl, rfl⟩
theorem zm7 {l : List TokL} (h : wrF l = none) : wrS l = [] ∧ wrE l = 2 := by unfold wrS wrE; rw [h]; exact ⟨rfl, rfl⟩
end Go.SK
namespace Go.SK
theorem zmg {s y : Tx} (hy : y.length = 0 ∨ ¬ zji (y.getD 0 0) = true) : zch (s ++ y) = zch s := by
  unfold zch
  induction s with
  | nil =>
    cases y with
    | nil => rfl
    | cons c r =>
      have : ¬ zji c = true := hy.resolve_left (by simp)
      rw [List.nil_append, List.takeWhile_cons, if_neg this]; rfl
  | cons c r ih =>
    rw [List.cons_append, List.takeWhile_cons, List.takeWhile_cons, ih]
theorem zrd : ∀ (s : Tx) (a n : Nat), zcl s a = some n → s.all zdT = true
  | [], a, n, _ => rfl
  | c :: r, a, n, h => by
    rw [zcl] at h; split at h
    · rename_i hc; rw [List.all_cons, hc, zrd r _ n h]; rfl
    · cases h
theorem zht {s : Tx} (h : s.all zdT = true) : s.all zji = true := by
  rw [List.all_eq_true] at h ⊢; intro c hc; exact run_d (h c hc)
theorem zhW {s : Tx} {n : Nat} (h : zbn s = some n) : 0 < s.length ∧ s.all zdT = true := by
  by_cases hb : ziP s
  · have := (zfJ hb).2; rw [h] at this; cases this
  · cases hd : zcl s 0 with
    | none => have := (zfI hb hd).2; rw [h] at this; cases this
    | some m => exact ⟨by unfold ziP at hb; omega, zrd s 0 m hd⟩
theorem zwD {p : UInt8 → Bool} {s : Tx} (n : Nat) (h : s.all p = true) : (s.drop n).all p = true := by
  rw [List.all_eq_true] at h ⊢; intro c hc; exact h c (List.mem_of_mem_drop hc)
theorem znH {s : Tx} (h : (zba s).2 = 0) : 0 < s.length ∧ (zdT (s.getD 0 0) = true ∨ (s.getD 0 0).toNat = 45) ∧ zch (s.drop 1) = s.drop 1 := by
  cases hp : zbn s with
  | some n =>
    obtain ⟨h0, ha⟩ := zhW hp
    exact ⟨h0, .inl (zmR ha h0), zhR (zht (zwD 1 ha))⟩
  | none =>
    by_cases hm : 1 < s.length ∧ (s.getD 0 0).toNat = 45
    · cases hq : zbn (s.drop 1) with
      | none => rw [zdt hp hm (fun n hn => by rw [hq] at hn; cases hn)] at h; cases h
      | some n => exact ⟨by omega, .inr hm.2, zhR (zht (zhW hq).2)⟩
    · by_cases hb : s.length < 3 ∨ 10 < s.length ∨ (s.getD 0 0).toNat ≠ 48 ∨ (s.getD 1 0).toNat ≠ 120
      · rw [zdc hp hm hb] at h; cases h
      · cases hx : zcJ (s.drop 2) 0 with
        | none => rw [zeC hp hm hb hx] at h; cases h
        | some n =>
          refine ⟨by omega, .inl (Dt Om), ?_⟩
          have h1 := (zjt _ _ _ hx).1
          rw [zi9 (show 1 < s.length by omega)]
          have hr : zji (s.getD 1 0) = true := by
            unfold zji zfv; rw [Bool.or_eq_true, decide_eq_true_eq]; omega
          unfold zch at h1 ⊢
          rw [List.takeWhile_cons, if_pos hr, h1]
theorem zqW {n : Nat} (h : n < 16) : zcY (ziZ n) = true ∧ zdO (ziZ n) = n := by
  have : ∀ n < 16, zcY (ziZ n) = true ∧ zdO (ziZ n) = n := by decide
  exact this n h
theorem zvN (c : UInt8) (z : Tx) : zcs (zjl c ++ z) = some (c, (zjl c).length) ∧ ((zjl c ++ z).getD 0 0).toNat ≠ 34 := by
  have hc := c.toNat_lt
  by_cases h1 : c.toNat < 32 ∨ 126 < c.toNat
  · rw [zgP h1]
    refine ⟨?_, by show (92 : UInt8).toNat ≠ 34; decide⟩
    have hh1 := zqW (n := c.toNat / 16) Om
    have hh2 := zqW (n := c.toNat % 16) Om
    have := zhY (s := [92, 120, ziZ (c.toNat / 16), ziZ (c.toNat % 16)] ++ z) (a := 0) (by simp) rfl (by simp) rfl hh1.1 hh2.1
    rw [List.drop_zero] at this
    rw [this]
    have e : UInt8.ofNat (16 * zdO (ziZ (c.toNat / 16)) + zdO (ziZ (c.toNat % 16))) = c := by
      rw [hh1.2, hh2.2]; apply UInt8.toNat_inj.1; rw [UInt8.toNat_ofNat']; omega
    exact congrArg some (Prod.ext e rfl)
  · by_cases h2 : c.toNat = 34 ∨ c.toNat = 92
    · rw [zgQ h1 h2]
      refine ⟨?_, by show (92 : UInt8).toNat ≠ 34; decide⟩
      have := zjm (s := [92, c] ++ z) (a := 0) (by simp) rfl (by simp) h2
      rw [List.drop_zero] at this
      rw [this]; rfl
    · rw [zjk h1 h2]
      refine ⟨?_, by show c.toNat ≠ 34; omega⟩
      have := zmm (s := [c] ++ z) (a := 0) (by simp) (by show ¬ (c.toNat < 32 ∨ 126 < c.toNat ∨ c.toNat = 34); omega) (by show c.toNat ≠ 92; omega)
      rw [List.drop_zero] at this
      rw [this]; rfl
theorem zqK (y : Tx) : ∀ (s : Tx) (n : Nat), (s.flatMap zjl ++ 34 :: y).length ≤ n → quoN n (s.flatMap zjl ++ 34 :: y) = some (s, (s.flatMap zjl).length + 1)
  | [], n, h => by
    cases n with
    | zero => simp at h
    | succ n => rw [List.flatMap_nil, List.nil_append, quoN, if_neg (by simp), if_pos (show ((34 :: y).getD 0 0).toNat = 34 from rfl)]; rfl
  | c :: r, n, h => by
    rw [List.flatMap_cons, List.append_assoc] at h ⊢
    obtain ⟨h1, h2⟩ := zvN c (r.flatMap zjl ++ 34 :: y)
    have hl := (zqL c).1
    cases n with
    | zero => rw [List.length_append] at h; omega
    | succ n =>
      rw [quoN, if_neg (by rw [List.length_append]; omega), if_neg h2, h1]
      dsimp only
      rw [List.drop_left, zqK y r n (by rw [List.length_append] at h; omega)]
      simp only [Option.map_some, List.length_append]
      congr 2
theorem zs3 {t : TokL} {x y : Tx} (h : wrT t = some x) (hy : y.length = 0 ∨ (y.getD 0 0).toNat = 32) : zf7 (x ++ y) = .ok (t.kind, t.text, x.length) ∧ 0 < x.length ∧ ¬ zca (x.getD 0 0) = true ∧ ¬ (x.getD 0 0).toNat = 59 := by
  have hyr : y.length = 0 ∨ ¬ zji (y.getD 0 0) = true := hy.imp id fun h32 => by
    unfold zji zfv zdT; rw [Bool.or_eq_true, decide_eq_true_eq, decide_eq_true_eq]; omega
  unfold wrT at h
  split at h
  · rename_i hk
    split at h
    · rename_i hq; cases h
      have e0 : (t.text ++ y).getD 0 0 = t.text.getD 0 0 := zju hq.1
      have := zhI (s := t.text ++ y) (a := 0) (by rw [e0]; exact hq.2.1)
      rw [List.drop_zero, zmg hyr, hq.2.2] at this
      exact ⟨by rw [this, hk], hq.1, zwc (znT hq.2.1), znS hq.2.1 (by omega)⟩
    · cases h
  split at h
  · rename_i hk
    split at h
    · rename_i hq; cases h
      obtain ⟨n, hn⟩ := zfy hq
      have hr : zch (((37 :: t.text) ++ y).drop (0 + 1)) = t.text := by
        show zch (t.text ++ y) = t.text
        rw [zmg hyr, zhR (zht (zhW hn).2)]
      have := zl4 (s := (37 :: t.text) ++ y) (a := 0) rfl (by rw [hr]; exact hq)
      rw [List.drop_zero, hr] at this
      exact ⟨by rw [this, hk]; rfl, by simp, by show ¬ zca 37 = true; decide, by show ¬ (37 : UInt8).toNat = 59; decide⟩
    · cases h
  split at h
  · rename_i hk
    split at h
    · rename_i hq; cases h
      obtain ⟨h0, h1, h2⟩ := znH hq
      have e0 : (t.text ++ y).getD 0 0 = t.text.getD 0 0 := zju h0
      have e1 : (t.text ++ y).drop (0 + 1) = t.text.drop 1 ++ y := by
        show (t.text ++ y).drop 1 = _
        rw [List.drop_append_of_le_length (by omega)]
      have e2 : ((t.text ++ y).drop 0).take (1 + (zch ((t.text ++ y).drop (0 + 1))).length) = t.text := by
        rw [e1, zmg hyr, h2, List.drop_zero, List.length_drop, show 1 + (t.text.length - 1) = t.text.length by omega, List.take_left]
      have := zgj (s := t.text ++ y) (a := 0) (by rw [e0]; exact h1) e2 hq
      rw [List.drop_zero] at this
      refine ⟨by rw [this, hk], h0, ?_, ?_⟩
      · rcases h1 with h1 | h1
        · exact zwc (zon h1)
        · unfold zca; simp only [decide_eq_true_eq]; omega
      · rcases h1 with h1 | h1
        · have := zhk h1; omega
        · omega
    · cases h
  split at h
  · rename_i hk; cases h
    have hl : (zd0 t.text).length = (t.text.flatMap zjl).length + 2 := by unfold zd0; simp
    have hq : zgR (zd0 t.text ++ y) (0 + 1) = some (t.text, (t.text.flatMap zjl).length + 1) := by
      unfold zgR
      have e : (zd0 t.text ++ y).drop (0 + 1) = t.text.flatMap zjl ++ 34 :: y := by unfold zd0; simp
      rw [e]
      exact zqK y t.text _ (by rw [← e, List.length_drop]; exact Nat.le_refl _)
    have := zjJ (s := zd0 t.text ++ y) (a := 0) rfl (by rw [hq]; exact Nat.succ_ne_zero _)
    rw [List.drop_zero, hq] at this
    refine ⟨?_, by rw [hl]; omega, by show ¬ zca 34 = true; decide, by show ¬ (34 : UInt8).toNat = 59; decide⟩
    rw [this, hk, hl]; rfl
  split at h
  · rename_i hk
    split at h
    · rename_i hq; cases h
      have := zng (s := [61] ++ y) (a := 0) rfl
      rw [List.drop_zero] at this
      exact ⟨by rw [this, hk, hq]; rfl, by simp, by show ¬ zca 61 = true; decide, by show ¬ (61 : UInt8).toNat = 59; decide⟩
    · cases h
  · cases h
theorem zfm : ∀ (l : List TokL) (o : List Tx) (k : Nat), wrL l = some o → (znv l o k).length = l.length ∧ o.length = l.length
  | [], o, k, h => by cases h; exact ⟨rfl, rfl⟩
  | t :: r, o, k, h => by
    rw [wrL] at h
    cases ht : wrT t with
    | none => rw [ht] at h; cases h
    | some x =>
      rw [ht, Option.bind_some] at h
      cases hr : wrL r with
      | none => rw [hr] at h; cases h
      | some xs =>
        rw [hr] at h; cases h
        have := zfm r xs (k + x.length + 1) hr
        exact ⟨by show (znv r xs _).length + 1 = _; rw [this.1]; rfl, by show xs.length + 1 = _; rw [this.2]; rfl⟩
theorem znd : ∀ (l : List TokL) (o : List Tx) (n k : Nat), wrL l = some o → (Lib.join o [32]).length ≤ n → zdh n (Lib.join o [32]) k = (znv l o k, (0, 0))
  | [], o, n, k, h, _ => by
    cases h
    cases n with
    | zero => rfl
    | succ n => rw [znW, zdh, if_pos (.inl rfl)]; rfl
  | t :: r, o, n, k, h, hn => by
    rw [wrL] at h
    cases ht : wrT t with
    | none => rw [ht] at h; cases h
    | some x =>
      rw [ht, Option.bind_some] at h
      cases hr : wrL r with
      | none => rw [hr] at h; cases h
      | some xs =>
        rw [hr] at h; cases h
        cases xs with
        | nil =>
          rw [zd3] at hn ⊢
          obtain ⟨h1, h2, h3, h4⟩ := zs3 (y := []) ht (.inl rfl)
          rw [List.append_nil] at h1
          cases n with
          | zero => omega
          | succ n =>
            rw [zdh, if_neg (by omega), if_neg h3, h1]
            dsimp only
            rw [List.drop_length]
            have : zdh n [] (k + x.length) = ([], (0, 0)) := by cases n <;> rfl
            rw [this, if_pos rfl]
            cases r with
            | nil => rfl
            | cons t2 r2 => have := (zfm _ _ 0 hr).2; cases this
        | cons x2 xs2 =>
          rw [join_cons] at hn ⊢
          obtain ⟨h1, h2, h3, h4⟩ := zs3 (y := 32 :: Lib.join (x2 :: xs2) [32]) ht (.inr rfl)
          have e0 : (x ++ 32 :: Lib.join (x2 :: xs2) [32]).getD 0 0 = x.getD 0 0 := zju h2
          rw [List.length_append, List.length_cons] at hn
          cases n with
          | zero => omega
          | succ n =>
            rw [zdh, e0, if_neg (by rw [List.length_append]; omega), if_neg h3, h1]
            dsimp only
            rw [List.drop_left]
            cases n with
            | zero => omega
            | succ n =>
              have e2 : zdh (n + 1) (32 :: Lib.join (x2 :: xs2) [32]) (k + x.length) = zdh n (Lib.join (x2 :: xs2) [32]) (k + x.length + 1) := by
                rw [zdh, if_neg (show ¬ ((32 :: Lib.join (x2 :: xs2) [32]).length = 0 ∨ ((32 :: Lib.join (x2 :: xs2) [32]).getD 0 0).toNat = 59) from fun q => q.elim (fun q => by simp at q) (fun q => absurd (show (32 : UInt8).toNat = 59 from q) (by decide))), if_pos (show zca ((32 :: Lib.join (x2 :: xs2) [32]).getD 0 0) = true from (show zca 32 = true by decide))]; rfl
              rw [e2, znd r (x2 :: xs2) n (k + x.length + 1) hr (by omega), if_pos rfl]; rfl
theorem zfz {l : List TokL} {o : List Tx} (h : wrL l = some o) : za7 (Lib.join o [32]) = (znv l o 0, (0, 0)) := znd l o _ 0 h (Nat.le_refl _)
end Go.SK
namespace Go.SK
theorem zk9 {l : List TokL} {o : List Tx} (h : wrL l = some o) : wrF l = some (Lib.join o [32]) := by rw [zjc, h]; rfl
theorem zqP {o : List Tx} (h : 0 < o.length) : osz o = (Lib.join o [32]).length + 1 := by
  induction o with
  | nil => simp at h
  | cons x r ih =>
    cases r with
    | nil => rw [zd3]; rfl
    | cons y q =>
      have := ih (by simp)
      rw [osz, this, join_cons, List.length_append, List.length_cons]; omega
end Go.SK
namespace Go.SK
def zd7 (n : Int) : Tx := Lib.decDigits n.toNat
def idK (n : Int) : TokL := ⟨2, zd7 n, 0⟩
def zgx (c : Int) (a : ArgP) : TokL :=
  if a.kind = 1 then ⟨2, zd7 a.n, 0⟩ else if a.kind = 2 then ⟨3, zd7 a.n, 0⟩ else if a.kind = 3 then ⟨4, a.s, 0⟩ else ⟨1, ((namesL.find? (enN c a.n)).getD zcz).name, 0⟩
def zfW (fm : FormL) : Nat → List ArgP → List TokL
  | _, [] => []
  | k, a :: r => zgx (zaP fm k) a :: zfW fm (k + 1) r
def zgd (i : InstL) : List TokL :=
  (if (zbq i.op).res = true then [idK i.res, ⟨5, [61], 0⟩] else []) ++ (⟨1, (zbq i.op).name, 0⟩ :: ((if (zbq i.op).ty = true then [idK i.ty] else []) ++ zfW (zbq i.op) 0 i.args))
def zcU (bound : Int) (i : InstL) : Tx × Int := if zbu bound i ≠ 0 then ([], zbu bound i) else (wrS (zgd i), 0)
abbrev ktL (l : List TokL) : List (Int × Tx) := l.map fun t => (t.kind, t.text)
theorem zfb {l : List TokL} {k : Int} {x : Tx} {z : List (Int × Tx)} (h : ktL l = (k, x) :: z) : ∃ t r, l = t :: r ∧ t.kind = k ∧ t.text = x ∧ ktL r = z := by
  cases l with
  | nil => cases h
  | cons t r =>
    injection h with h1 h2
    injection h1 with h3 h4
    exact ⟨t, r, rfl, h3, h4, h2⟩
theorem zx7 {c bound : Int} {t u : TokL} (hk : t.kind = u.kind) (ht : t.text = u.text) : zb9 c t bound = zb9 c u bound := by
  unfold zb9; rw [hk, ht]
theorem zw4 {n bound : Int} (h : idE n bound = 0) : n ≠ 0 ∧ n < bound := by
  unfold idE at h
  split at h
  · cases h
  · omega
theorem zmI {n bound : Int} (h0 : 0 ≤ n) (h1 : n < 4294967296) (h : n ≠ 0 ∧ n < bound) : idL (zd7 n) bound = n ∧ n ≠ 0 := by
  have hp := (zj3 (zfA (u := n.toNat) Om)).1
  unfold idL zd7
  rw [hp, if_pos (by omega)]; omega
theorem zwx {c bound : Int} {a : ArgP} (h : zbN c a bound = 0) (hk : zbZ c ≠ 0) (h0 : 0 ≤ a.n) (h1 : a.n < 4294967296) : zb9 c (zgx c a) bound = (a, 0) := by
  obtain ⟨k, n, s⟩ := a
  obtain ⟨hc, hkd, h3, hs, hid, hen, hz⟩ := zdg h
  dsimp only at hkd h3 hs hid hen hz h0 h1
  by_cases hc1 : c = 105
  · subst hc1
    have hk1 : k = 1 := hkd
    subst hk1
    have hi := zmI h0 h1 (zw4 (hid rfl))
    rw [show zgx 105 ⟨1, n, s⟩ = ⟨2, zd7 n, 0⟩ from rfl]
    unfold zb9
    rw [if_neg (by simp [zd2]), if_pos rfl]
    dsimp only
    rw [if_neg (by rw [hi.1]; exact hi.2), hi.1, hs (by decide)]
  by_cases hc2 : c = 110
  · subst hc2
    have hk1 : k = 2 := hkd
    subst hk1
    have hp : zba (zd7 n) = (n, 0) := by
      have hp := zfo (zfA (u := n.toNat) Om)
      rw [show ((n.toNat : Nat) : Int) = n by omega] at hp; exact hp
    rw [show zgx 110 ⟨2, n, s⟩ = ⟨3, zd7 n, 0⟩ from rfl]
    unfold zb9
    rw [if_neg (by simp [zd2]), if_neg (by decide), if_pos rfl]
    refine (if_neg (show ¬ (zba (zd7 n)).2 ≠ 0 by rw [hp]; simp)).trans ?_
    show ((⟨2, (zba (zd7 n)).1, []⟩ : ArgP), (0 : Int)) = _
    rw [hp, hs (by decide)]
  by_cases hc3 : c = 115
  · subst hc3
    have hk1 : k = 3 := hkd
    subst hk1
    rw [show zgx 115 ⟨3, n, s⟩ = ⟨4, s, 0⟩ from rfl]
    unfold zb9
    rw [if_neg (by simp [zd2]), if_neg (by decide), if_neg (by decide), if_pos rfl]
    dsimp only
    rw [if_neg (by rw [hz]; simp), h3 rfl]
  have hk1 : k = 4 := by
    rw [hkd]; unfold zbZ at hk hkd ⊢
    rw [if_neg hc1, if_neg hc2, if_neg hc3] at hk ⊢
    split
    · rfl
    · rename_i q; rw [if_neg q] at hk; exact absurd rfl hk
  subst hk1
  have he := hen rfl
  unfold zfT at he
  cases hf : namesL.find? (enN c n) with
  | none => rw [hf, if_neg (by simp)] at he; cases he
  | some x =>
    obtain ⟨hx1, hx2, hx3, _⟩ := zod hf
    rw [show zgx c ⟨4, n, s⟩ = ⟨1, ((namesL.find? (enN c n)).getD zcz).name, 0⟩ from rfl, hf]
    unfold zb9
    dsimp only [Option.getD_some]
    rw [if_neg (by unfold zd2; rw [if_neg hc1, if_neg hc2, if_neg hc3]; simp [hc]), if_neg hc1, if_neg hc2, if_neg hc3, if_neg (show ¬ (namesL.find? (enS c x.name)).isSome = false by rw [hx3]; simp), hx3]
    dsimp only [Option.getD_some]
    rw [hx2, hs (by decide)]
theorem zos {op bound : Int} : ∀ (l : List ArgP) (k : Nat) (r : List TokL), ktL r = ktL (zfW (zbq op) k l) → zb0 (zbq op) bound k l = 0 → (∀ a ∈ l, 0 ≤ a.n ∧ a.n < 4294967296) → zcQ (zbq op) bound k r = (l, (0, 0))
  | [], k, r, h, _, _ => by
    cases r with
    | nil => rfl
    | cons t r => cases h
  | a :: l, k, r, h, hw, hn => by
    obtain ⟨t, r, rfl, hk, ht, hr⟩ := zfb (k := (zgx (zaP (zbq op) k) a).kind) (x := (zgx (zaP (zbq op) k) a).text) (z := ktL (zfW (zbq op) (k + 1) l)) h
    have h2 := zho hw
    have hz := zdg h2.1
    have ha := zwx h2.1 (zgo _ _ hz.1) (hn a (.head _)).1 (hn a (.head _)).2
    have ih := zos l (k + 1) r hr h2.2 (fun b hb => hn b (.tail _ hb))
    unfold zcQ
    rw [zx7 hk ht, ha, if_neg (by simp), ih]
theorem ztV {bound n : Int} {i : InstL} {l : List TokL} (hkt : ktL l = ktL (zgd i)) (hf : zbu bound i = 0) (hu : i.U32) : zcV n l bound = (i, true, (0, 0)) := by
  obtain ⟨h1, h2, h3, h4, h5, h6⟩ := zes hf
  obtain ⟨fm, hfm⟩ := Option.isSome_iff_exists.1 h1
  have hop := zto hfm
  have hD : zbq i.op = fm := by rw [zbq, hfm]; rfl
  have hfind := zoc hfm
  have hfits : (zej i.op (i.args.map ArgP.kind)).2 = true := by
    rw [zde rfl rfl h1, zh9 (zex h4) (by rwa [List.length_map])]
  obtain ⟨op, ty, res, args⟩ := i
  dsimp only at *
  have hty := zjs De h2
  have hres := zjs De h3
  have hargs := fun r hr => zos (op := op) args 0 r hr h4 hu.args
  unfold zgd at hkt
  dsimp only at hkt
  rw [hD] at hkt hty hres hargs h6
  cases hr : fm.res with
  | true =>
    rw [hr, if_pos rfl] at hkt
    obtain ⟨t0, l, rfl, k0, x0, hkt⟩ := zfb (k := 2) (x := zd7 res) (z := _) hkt
    obtain ⟨t1, l, rfl, k1, x1, hkt⟩ := zfb (k := 5) (x := [61]) (z := _) hkt
    obtain ⟨t2, l, rfl, k2, x2, hkt⟩ := zfb (k := 1) (x := fm.name) (z := _) hkt
    have hrr := zmI hu.res.1 hu.res.2 (hres.1 hr)
    dsimp only at hrr
    have hat : zi6 (t0 :: t1 :: t2 :: l) = 2 := if_pos k0
    unfold zcV
    rw [hat, if_neg (by simp), if_neg (by simp), if_neg (by simp [List.getD, k1]), if_neg (by simp), if_neg (by simp [List.getD, k2])]
    have hq : ((t0 :: t1 :: t2 :: l).getD 2 zaR).text = fm.name := x2
    rw [hq, hfind, if_neg (by simp), Option.getD_some]
    unfold zgq
    rw [hat]
    have hq0 : ((t0 :: t1 :: t2 :: l).getD 0 zaR) = t0 := rfl
    rw [hq0, k0, x0, hrr.1, if_neg (by simp [hr]), if_neg (by simp [hrr.2]), if_pos rfl]
    cases ht : fm.ty with
    | true =>
      rw [ht, if_pos rfl] at hkt
      obtain ⟨t3, l, rfl, k3, x3, hkt⟩ := zfb (k := 2) (x := zd7 ty) (z := _) hkt
      have htt := zmI hu.ty.1 hu.ty.2 (hty.1 ht)
      dsimp only at htt
      have hq3 : ((t0 :: t1 :: t2 :: t3 :: l).getD (2 + 1) zaR) = t3 := rfl
      rw [hq3, k3, x3, htt.1, if_neg (by simp), if_neg (by simp), if_neg (by simp [htt.2]), show (t0 :: t1 :: t2 :: t3 :: l).drop (2 + 1 + b2n true) = l from rfl, hargs l hkt]
      dsimp only
      rw [hop, if_neg (by simp), hfits, if_neg (by simp), if_neg h6, if_pos rfl]
    | false =>
      rw [ht] at hkt
      rw [if_neg (by simp), if_neg (by simp), if_neg (by simp), show (t0 :: t1 :: t2 :: l).drop (2 + 1 + b2n false) = l from rfl, hargs l hkt]
      dsimp only
      rw [hop, if_neg (by simp), hfits, if_neg (by simp), if_neg h6, if_neg (by simp), hty.2 ht]
  | false =>
    rw [hr, if_neg (by simp)] at hkt
    obtain ⟨t2, l, rfl, k2, x2, hkt⟩ := zfb (k := 1) (x := fm.name) (z := _) hkt
    have hat : zi6 (t2 :: l) = 0 := if_neg (show ¬ t2.kind = 2 by omega)
    have hq0 : ((t2 :: l).getD 0 zaR) = t2 := rfl
    unfold zcV
    rw [hat, hq0, k2, if_neg (by simp), if_neg (by simp), if_neg (by simp), if_neg (by simp), if_neg (by simp), x2, hfind, if_neg (by simp), Option.getD_some]
    unfold zgq
    rw [hat, hq0, k2, if_neg (by simp [hr]), if_neg (by simp)]
    cases ht : fm.ty with
    | true =>
      rw [ht, if_pos rfl] at hkt
      obtain ⟨t3, l, rfl, k3, x3, hkt⟩ := zfb (k := 2) (x := zd7 ty) (z := _) hkt
      have htt := zmI hu.ty.1 hu.ty.2 (hty.1 ht)
      dsimp only at htt
      have hq3 : ((t2 :: t3 :: l).getD (0 + 1) zaR) = t3 := rfl
      rw [hq3, k3, x3, htt.1, if_neg (by simp), if_neg (by simp), if_neg (by simp [htt.2]), show (t2 :: t3 :: l).drop (0 + 1 + b2n true) = l from rfl, hargs l hkt]
      dsimp only
      rw [hop, if_neg (by simp), hfits, if_neg (by simp), if_neg h6, if_pos rfl, if_neg (by simp), hres.2 hr]
    | false =>
      rw [ht] at hkt
      rw [if_neg (by simp), if_neg (by simp), if_neg (by simp), show (t2 :: l).drop (0 + 1 + b2n false) = l from rfl, hargs l hkt]
      dsimp only
      rw [hop, if_neg (by simp), hfits, if_neg (by simp), if_neg h6, if_neg (by simp), if_neg (by simp), hty.2 ht, hres.2 hr]
end Go.SK
namespace Go.SK
def zvo (s : Tx) : Bool := decide (s ≠ []) && zfv (s.getD 0 0) && decide (zch s = s)
theorem zlw : refT.all (fun f => zvo f.name) = true := by decide +kernel
theorem zlE : namesL.all (fun x => zvo x.name) = true := by decide +kernel
theorem zgg {s : Tx} {a : Int} (h : zvo s = true) : wrT ⟨1, s, a⟩ = some s := by
  simp only [zvo, Bool.and_eq_true, decide_eq_true_eq] at h
  exact zqs rfl h.1.1 h.1.2 h.2
theorem zrz {n : Int} (h0 : 0 ≤ n) (h1 : n < 4294967296) (a : Int) : wrT ⟨2, zd7 n, a⟩ = some (37 :: zd7 n) :=
  zqr rfl (by show (zbn (Lib.decDigits n.toNat)).isSome = true; rw [zfA (u := n.toNat) (by omega)]; rfl)
theorem zhf {n : Int} (h0 : 0 ≤ n) (h1 : n < 4294967296) (a : Int) : wrT ⟨3, zd7 n, a⟩ = some (zd7 n) :=
  zqq rfl (by show (zba (Lib.decDigits n.toNat)).2 = 0; rw [zfo (zfA (u := n.toNat) (by omega))])
theorem zwQ {c bound : Int} {a : ArgP} (h : zbN c a bound = 0) (hk : zbZ c ≠ 0) (h0 : 0 ≤ a.n) (h1 : a.n < 4294967296) : ∃ x, wrT (zgx c a) = some x := by
  obtain ⟨k, n, s⟩ := a
  obtain ⟨hc, hkd, h3, hs, hid, hen, hz⟩ := zdg h
  dsimp only at hkd h3 hs hid hen hz h0 h1
  unfold zgx
  dsimp only
  by_cases hk1 : k = 1
  · rw [if_pos hk1]; exact ⟨_, zrz h0 h1 _⟩
  rw [if_neg hk1]
  by_cases hk2 : k = 2
  · rw [if_pos hk2]; exact ⟨_, zhf h0 h1 _⟩
  rw [if_neg hk2]
  by_cases hk3 : k = 3
  · rw [if_pos hk3]; exact ⟨_, zm9 rfl⟩
  rw [if_neg hk3]
  have hb := zqU c
  have hk4 : k = 4 := by omega
  have he := hen hk4
  unfold zfT at he
  cases hf : namesL.find? (enN c n) with
  | none => rw [hf, if_neg (by simp)] at he; cases he
  | some x => exact ⟨_, zgg (List.all_eq_true.1 zlE x (List.mem_of_find?_eq_some hf))⟩
theorem zbs {t : TokL} {r : List TokL} {x : Tx} {o : List Tx} (h : wrT t = some x) (hr : wrL r = some o) : wrL (t :: r) = some (x :: o) := by
  unfold wrL; rw [h, hr]; rfl
theorem zlX {op bound : Int} : ∀ (l : List ArgP) (k : Nat), zb0 (zbq op) bound k l = 0 → (∀ a ∈ l, 0 ≤ a.n ∧ a.n < 4294967296) → ∃ o, wrL (zfW (zbq op) k l) = some o
  | [], k, _, _ => ⟨[], rfl⟩
  | a :: l, k, hw, hn => by
    have h2 := zho hw
    have hz := zdg h2.1
    obtain ⟨x, hx⟩ := zwQ h2.1 (zgo _ _ hz.1) (hn a (.head _)).1 (hn a (.head _)).2
    obtain ⟨o, ho⟩ := zlX l (k + 1) h2.2 (fun b hb => hn b (.tail _ hb))
    exact ⟨x :: o, zbs hx ho⟩
theorem zxt {bound : Int} {i : InstL} (hf : zbu bound i = 0) (hu : i.U32) : ∃ o, wrL (zgd i) = some o := by
  obtain ⟨h1, h2, h3, h4, h5, h6⟩ := zes hf
  obtain ⟨fm, hfm⟩ := Option.isSome_iff_exists.1 h1
  have hD : zbq i.op = fm := by rw [zbq, hfm]; rfl
  have hm := (zeZ hfm).1
  obtain ⟨o, ho⟩ := zlX i.args 0 h4 hu.args
  have hw := zgg (a := 0) (List.all_eq_true.1 zlw fm hm)
  unfold zgd
  rw [hD] at ho ⊢
  have hty := zrz hu.ty.1 hu.ty.2 0
  have hres := zrz hu.res.1 hu.res.2 0
  cases fm.res <;> cases fm.ty <;> simp only [if_true, if_false, Bool.false_eq_true, List.nil_append, List.cons_append]
  · exact ⟨_, zbs hw ho⟩
  · exact ⟨_, zbs hw (zbs hty ho)⟩
  · exact ⟨_, zbs hres (zbs (zjC rfl rfl) (zbs hw ho))⟩
  · exact ⟨_, zbs hres (zbs (zjC rfl rfl) (zbs hw (zbs hty ho)))⟩
theorem zqI : ∀ (l : List TokL) (o : List Tx) (k : Nat), wrL l = some o → ktL (znv l o k) = ktL l := fun l o k h => by
  refine List.ext_getElem (by rw [List.length_map, List.length_map, (zfm l o k h).1]) fun j h1 h2 => ?_
  rw [List.length_map] at h1 h2
  have hg := (zjY l o k j h h2).1
  rw [List.getElem_map, List.getElem_map]
  simp only [List.getD, List.getElem?_eq_getElem h1, List.getElem?_eq_getElem h2, Option.getD_some] at hg
  rw [hg]
theorem zfu {bound : Int} {i : InstL} (hf : zbu bound i = 0) (hu : i.U32) : ∃ o, wrL (zgd i) = some o ∧ zcU bound i = (Lib.join o [32], 0) ∧ zaT (Lib.join o [32]) bound = (i, true, (0, 0)) := by
  obtain ⟨o, ho⟩ := zxt hf hu
  refine ⟨o, ho, ?_, ?_⟩
  · unfold zcU; rw [if_neg (by rw [hf]; simp), (zdX (zk9 ho)).1]
  · unfold zaT
    rw [zfz ho, if_neg (by simp)]
    exact ztV (zqI _ _ _ ho) hf hu
end Go.SK
namespace Go.SK
def ziH (gn bd : Int) : List TokL := [⟨1, modW, 0⟩, ⟨3, zd7 gn, 0⟩, ⟨3, zd7 bd, 0⟩]
def zc8 (bd : Int) (l : List InstL) : Tx := l.flatMap fun i => (zcU bd i).1 ++ [10]
def zc9 (gn bd : Int) (l : List InstL) : Tx × (Int × Int) := if (zbz bd l).1 ≠ 0 then ([], zbz bd l) else (wrS (ziH gn bd) ++ 10 :: zc8 bd l, (0, 0))
end Go.SK
namespace Go.SK
def zw8 (c : Int) : Int := if c = 105 then -9 else if c = 100 then 1 else 0
def zqE (fm : FormL) : Nat → Nat → Int
  | _, 0 => 0
  | k, n + 1 => zw8 (zaP fm k) + zqE fm (k + 1) n
theorem ztL : refT.all (fun f => decide ((f.name.length : Int) + 1 + (if f.res = true then 9 else 0) + (if f.ty = true then 7 else 0) + zqE f 0 f.fixed.length ≤ 16 * (1 + ((b2n f.ty : Int) + b2n f.res))) && f.rest.all (fun c => decide (c.toNat ≠ 100))) = true := by decide +kernel
theorem zsi : namesL.all (fun x => decide ((x.name.length : Int) + 1 ≤ 16 + (if x.letter = 100 then 1 else 0) ∧ x.letter ≠ 105)) = true := by decide +kernel
theorem zqD (fm : FormL) : ∀ (a b k : Nat), zqE fm k (a + b) = zqE fm k a + zqE fm (k + a) b
  | 0, b, k => by rw [Nat.zero_add, zqE, Nat.add_zero]; omega
  | a + 1, b, k => by
    rw [show a + 1 + b = (a + b) + 1 by omega, zqE, zqE, zqD fm a b (k + 1), show k + 1 + a = k + (a + 1) by omega]; omega
theorem znj {fm : FormL} (hr : fm.rest.all (fun c => decide (c.toNat ≠ 100)) = true) : ∀ (n k : Nat), fm.fixed.length ≤ k → zqE fm k n ≤ 0
  | 0, k, _ => Int.le_refl _
  | n + 1, k, hk => by
    have ih := znj hr n (k + 1) Om
    have hl : zaP fm k ≠ 100 := by
      unfold zaP
      rw [if_neg (by omega), if_neg (by omega)]
      unfold zgn
      split
      · decide
      · rename_i h
        have hne : fm.rest ≠ [] := fun e => h (.inr (.inl e))
        have hp := List.length_pos_iff.2 hne
        have hm := Int.emod_lt_of_pos ((k : Int) - (fm.fixed.length : Int)) (show (0 : Int) < fm.rest.length by omega)
        have hg := Int.emod_nonneg ((k : Int) - (fm.fixed.length : Int)) (show (fm.rest.length : Int) ≠ 0 by omega)
        have hi : (((k : Int) - fm.fixed.length) % fm.rest.length).toNat < fm.rest.length := by omega
        have := of_decide_eq_true (zmR hr hi)
        omega
    have : zw8 (zaP fm k) ≤ 0 := by
      unfold zw8
      split
      · omega
      · first | omega | (rw [if_neg hl]; omega)
    rw [zqE]; omega
theorem zkt {n : Int} {k : Nat} (h0 : 0 ≤ n) (h : n.toNat < 10 ^ (k + 1)) : (zd7 n).length ≤ k + 1 := by
  unfold zd7; rw [zmH]
  exact zgV (k := k) h
theorem zx5 {c bound : Int} {a : ArgP} {x : Tx} (h : zbN c a bound = 0) (hk : zbZ c ≠ 0) (h0 : 0 ≤ a.n) (h1 : a.n < 4294967296) (hb : bound ≤ 65536) (hx : wrT (zgx c a) = some x) : (x.length : Int) + 1 ≤ 16 * za1 a + zw8 c := by
  obtain ⟨k, n, s⟩ := a
  obtain ⟨hc, hkd, h3, hs, hid, hen, hz⟩ := zdg h
  dsimp only at hkd h3 hs hid hen hz h0 h1
  have hd : (zd7 n).length ≤ 10 := zkt (k := 9) h0 Om
  unfold zgx at hx
  unfold za1
  dsimp only at hx ⊢
  by_cases hk1 : k = 1
  · rw [if_pos hk1, zrz h0 h1] at hx; cases hx
    have h5 : (zd7 n).length ≤ 5 := zkt (k := 4) h0 (by have := (zw4 (hid hk1)).2; omega)
    rw [if_neg (by omega), List.length_cons]
    have hc5 : c = 105 := by
      unfold zbZ at hkd
      split at hkd
      · assumption
      · repeat (first | (split at hkd) | omega)
    unfold zw8; rw [if_pos hc5]; omega
  rw [if_neg hk1] at hx
  by_cases hk2 : k = 2
  · rw [if_pos hk2, zhf h0 h1] at hx; cases hx
    have hc5 : c ≠ 105 := fun e => by subst e; rw [hk2] at hkd; exact absurd hkd (by decide)
    rw [if_neg (by omega)]; unfold zw8; rw [if_neg hc5]; split <;> omega
  rw [if_neg hk2] at hx
  by_cases hk3 : k = 3
  · rw [if_pos hk3, zm9 rfl] at hx; cases hx
    have := znz s
    have hc5 : c ≠ 105 := fun e => by subst e; rw [hk3] at hkd; exact absurd hkd (by decide)
    rw [if_pos hk3]; dsimp only
    unfold zw8; rw [if_neg hc5]; split <;> omega
  rw [if_neg hk3] at hx
  have hkb := zqU c
  have hk4 : k = 4 := by omega
  have he := hen hk4
  unfold zfT at he
  cases hf : namesL.find? (enN c n) with
  | none => rw [hf, if_neg (by simp)] at he; cases he
  | some y =>
    rw [hf] at hx
    have hm := List.mem_of_find?_eq_some hf
    have hw : wrT ⟨1, ((some y).getD zcz).name, 0⟩ = some y.name := zgg (List.all_eq_true.1 zlE y hm)
    rw [hw] at hx; cases hx
    have h5 := of_decide_eq_true (List.all_eq_true.1 zsi y hm)
    have hy := (zod hf).1
    rw [hy] at h5
    rw [if_neg hk3]; unfold zw8; rw [if_neg h5.2]; omega
theorem zrk {op bound : Int} (hb : bound ≤ 65536) : ∀ (l : List ArgP) (k : Nat) (o : List Tx), zb0 (zbq op) bound k l = 0 → (∀ a ∈ l, 0 ≤ a.n ∧ a.n < 4294967296) → wrL (zfW (zbq op) k l) = some o → (osz o : Int) ≤ 16 * (l.map za1).sum + zqE (zbq op) k l.length
  | [], k, o, _, _, h => by cases h; exact Int.le_refl _
  | a :: l, k, o, hw, hn, h => by
    have h2 := zho hw
    have hz := zdg h2.1
    have hk := zgo _ _ hz.1
    obtain ⟨x, hx⟩ := zwQ h2.1 hk (hn a (.head _)).1 (hn a (.head _)).2
    obtain ⟨p, hp⟩ := zlX l (k + 1) h2.2 (fun b hb => hn b (.tail _ hb))
    have e : wrL (zfW (zbq op) k (a :: l)) = some (x :: p) := zbs hx hp
    rw [e] at h; cases h
    have ih := zrk hb l (k + 1) p h2.2 (fun b hb => hn b (.tail _ hb)) hp
    have h1 := zx5 h2.1 hk (hn a (.head _)).1 (hn a (.head _)).2 hb hx
    rw [osz, List.map_cons, List.sum_cons, List.length_cons, zqE]; omega
theorem zv1 {bound : Int} {i : InstL} {o : List Tx} (hf : zbu bound i = 0) (hu : i.U32) (hb : bound ≤ 65536) (ho : wrL (zgd i) = some o) : osz o ≤ 16 * zbT (zbq i.op) i.args := by
  obtain ⟨h1, h2, h3, h4, h5, h6⟩ := zes hf
  obtain ⟨fm, hfm⟩ := Option.isSome_iff_exists.1 h1
  have hD : zbq i.op = fm := by rw [zbq, hfm]; rfl
  have hm := (zeZ hfm).1
  obtain ⟨p, hp⟩ := zlX i.args 0 h4 hu.args
  have hpl := zrk hb i.args 0 p h4 hu.args hp
  have hw := zgg (a := 0) (List.all_eq_true.1 zlw fm hm)
  have hnl0 := List.all_eq_true.1 ztL fm hm
  rw [Bool.and_eq_true] at hnl0
  have hnl := of_decide_eq_true hnl0.1
  have hfx : fm.fixed.length ≤ i.args.length := by
    rw [hD] at h5
    exact Classical.byContradiction fun hq => h5 (.inl Om)
  have hse : zqE fm 0 i.args.length ≤ zqE fm 0 fm.fixed.length := by
    have h7 := zqD fm fm.fixed.length (i.args.length - fm.fixed.length) 0
    have h8 := znj hnl0.2 (i.args.length - fm.fixed.length) (0 + fm.fixed.length) Om
    rw [show fm.fixed.length + (i.args.length - fm.fixed.length) = i.args.length by omega] at h7
    omega
  rw [hD] at hpl
  have hty := zjs De h2
  have hres := zjs De h3
  unfold zgd idK at ho
  unfold zbT
  rw [hD] at ho hp hty hres ⊢
  have wty := zrz hu.ty.1 hu.ty.2 0
  have wres := zrz hu.res.1 hu.res.2 0
  have lres : fm.res = true → (zd7 i.res).length ≤ 5 := fun h => zkt (k := 4) hu.res.1 (by have := (hres.1 h).2; omega)
  have lty : fm.ty = true → (zd7 i.ty).length ≤ 5 := fun h => zkt (k := 4) hu.ty.1 (by have := (hty.1 h).2; omega)
  cases hr : fm.res <;> cases ht : fm.ty <;> rw [hr, ht] at hnl <;> simp only [hr, ht, if_true, if_false, Bool.false_eq_true, List.nil_append, List.cons_append, b2n] at ho hnl ⊢
  · rw [zbs hw hp] at ho; cases ho
    simp only [osz]; omega
  · rw [zbs hw (zbs wty hp)] at ho; cases ho
    have := lty ht
    simp only [osz, List.length_cons]; omega
  · rw [zbs wres (zbs (zjC rfl rfl) (zbs hw hp))] at ho; cases ho
    have := lres hr
    simp only [osz, List.length_cons, List.length_nil]; omega
  · rw [zbs wres (zbs (zjC rfl rfl) (zbs hw (zbs wty hp)))] at ho; cases ho
    have := lres hr
    have := lty ht
    simp only [osz, List.length_cons, List.length_nil]; omega
theorem zvx {i : InstL} {o : List Tx} (ho : wrL (zgd i) = some o) : 0 < o.length := by
  have := (zfm _ _ 0 ho).2
  rw [this]; unfold zgd; rw [List.length_append, List.length_cons]; omega
theorem zly {bd : Int} (hb : bd ≤ 65536) : ∀ (l : List InstL) (n k : Nat), n ≤ 1048576 → (zcP bd n k l).1 = 0 → (∀ i ∈ l, i.U32) → (zc8 bd l).length + 16 * n ≤ 16777216
  | [], n, k, hn, _, _ => by show 0 + 16 * n ≤ 16777216; omega
  | i :: l, n, k, hn, hs, hu => by
    unfold zcP at hs
    split at hs
    · rename_i h; exact absurd hs h
    rename_i hf
    split at hs
    · cases hs
    rename_i hr
    obtain ⟨o, ho, hp, hl⟩ := zfu (Nn hf) (hu i (.head _))
    have e : zc8 bd (i :: l) = Lib.join o [32] ++ 10 :: zc8 bd l := by
      unfold zc8; rw [List.flatMap_cons, hp]; simp
    have ih := zly hb l _ (k + 1) Om hs (fun j hj => hu j (.tail _ hj))
    have h1 := zv1 (Nn hf) (hu i (.head _)) hb ho
    have h2 := zqP (zvx ho)
    rw [e, List.length_append, List.length_cons]; omega
theorem zqC {gn bd : Int} {l : List InstL} (hs : (zbz bd l).1 = 0) (hg : 0 ≤ gn ∧ gn < 4294967296) (hu : ∀ i ∈ l, i.U32) (hb0 : 0 ≤ bd) : (zc9 gn bd l).1.length ≤ 16777216 := by
  have hbd : (1 ≤ bd ∧ bd ≤ 65536) ∧ (zcP bd 5 0 l).1 = 0 := by
    unfold zbz at hs
    split at hs
    · cases hs
    · exact ⟨by omega, hs⟩
  have ho : wrL (ziH gn bd) = some [modW, zd7 gn, zd7 bd] := zbs (zgg De) (zbs (zhf hg.1 hg.2 0) (zbs (zhf Om Om 0) rfl))
  have hw := (zdX (zk9 ho)).1
  have h1 := zly hbd.1.2 l 5 0 Om hbd.2 hu
  have h2 := zqP (o := [modW, zd7 gn, zd7 bd]) (by simp)
  have h3 : (zd7 gn).length ≤ 10 := zkt (k := 9) hg.1 Om
  have h4 : (zd7 bd).length ≤ 5 := zkt (k := 4) hb0 Om
  have h5 : modW.length = 6 := rfl
  simp only [osz] at h2
  unfold zc9
  rw [if_neg (by rw [hs]; simp), hw]
  dsimp only
  rw [List.length_append, List.length_cons]; omega
end Go.SK
namespace Go.SK
open Go Go.Proofs
open Go.RowKit
theorem zqb (s : Tx) (w : World) (hl : s.length ≤ 1099511627776) : Ret Tryz.prog 165 #[str s] w (fun v w' => v = str (zd0 s) ∧ St w NoM [] [] w') := by
 refine zav (args := [str s]) Tryz.func165 rfl rfl rfl ?_
 have hst := St.init w
 refine SR <| AS rfl <| NSR <| CN (zaE (z0 := [.int .u8 0]) hst zcr ty5 rfl rfl Kr (.c (v := .int .u8 _) rfl (h := .nil)) fun w b6 hst => ?_)
 refine AL rfl <| NL <| SQ <| SQ ?_
 replace hst := St.rowSl (n := 1) (es := 1) hst rfl (by rw [zfr]; omega)
 refine RG <| AI rfl <| NL <| zao <| zaV <| zaU [(0, str _)] ⟨rfl, trivial⟩ (fun (qq : Nat × Option Addr × Nat) => [(3, .slice qq.2.1 (qb s qq.1).length qq.2.2), (4, .int .i64 (qq.1 : Int))]) (fun (qq : Nat × Option Addr × Nat) => [Res.sl qq.2.1 (qb s qq.1).length qq.2.2 5 1 ((qb s qq.1).flatMap byC)]) (fun (qq : Nat × Option Addr × Nat) => qq.1 ≤ s.length) (fun (qq : Nat × Option Addr × Nat) => s.length - qq.1) ((0, some ⟨b6, 0, none⟩, 1)) hst (Nat.zero_le _) E2 ?_
 intro ⟨i, aq, cq⟩ f w hst hJ ih1
 replace hst : St _ _ ([Res.sl aq (qb s i).length cq 5 1 ((qb s i).flatMap byC)] ++ []) _ _ := hst
 replace hJ : i ≤ s.length := hJ
 refine za2 (sl := [(3, .slice aq (qb s i).length cq), (4, .int .i64 (i : Int))]) E2 ?_
 have hidx : (s.getD ((i : Int).toNat) 0).toNat = (s.getD i 0).toNat := rfl
 have hql := ztv s i
 have hc8 := (s.getD i 0).toNat_lt
 refine SQ <| SR <| MI rfl <| MS rfl <| CN <| zaL (rest := []) ty9 rfl <| CN <| zaS rfl rfl <| NL <| zab rfl (fun g2 => ?_) (fun g2 => ?_)
 ·refine zaf <| SQ <| zao <| SR <| MS rfl <| MI rfl <| CN <| zaH ty9 rfl rfl Om Om <| AC rfl <| NL <| zao <| SQ <| zao <| SQ <| zao ?_
  refine SQ <| zao <| SQ <| SQ <| SR <| MC rfl <| CN <| zaS rfl rfl <| MB rfl <| zan (d := 19) rfl (fun g3 => ?_) (fun g3 => ?_)
  ·refine OM (t := 19) rfl (Vb (Dt g3)) rfl <| OM (t := 19) rfl (Vb (Dt g3)) rfl <| CN <| zap (u := .bool _) (Vb (Dt g3)) rfl <| AB rfl <| NL <| zax (Vb (rfl : true = _)) <| zaJ (id := 3) rfl <| SQ <| RunD.start [] hst (bs := [0, 0, 2, 6, 0, 16, 48, 126, 255, 511]) (ds := [some 28, some 29, some 30, some 31, some 32, some 33, some 34, some 35, some 36, some 3]) ⟨Kr, Kr, Kr⟩ (fun tab4 => ?_)
   refine DO tab4 1 (fun f' L' w' hc=> zad (v := .slice _ _ _) (hc.old rfl rfl rfl) hc.z) <| DO tab4 2 (fun f' L' w' hc=> zad (v := .int .u8 _) (hc.old rfl rfl rfl) hc.z) <| DO tab4 3 (fun f' L' w' hc=> zru (c := (((s.getD i 0).toNat / 16 : Nat) : Int)) (hc.d 1 rfl rfl rfl rfl) rfl (by decide) (by decide) (by rw [show (2 : Int) ^ (4 : Int).toNat = 16 from rfl]; omega) hc.z) <| DO tab4 4 (fun f' L' w' hc=> zaH (s := [48, 49, 50, 51, 52, 53, 54, 55, 56, 57, 97, 98, 99, 100, 101, 102]) ty9 rfl (hc.d 2 rfl rfl rfl rfl) (by omega) (by (have hl16 : ([48, 49, 50, 51, 52, 53, 54, 55, 56, 57, 97, 98, 99, 100, 101, 102] : Tx).length = 16 := rfl); omega) hc.z) <| DO tab4 5 (fun f' L' w' hc=> zad (v := .int .u8 _) (hc.old rfl rfl rfl) hc.z) <| DO tab4 6 (fun f' L' w' hc=> zo8 (m := (s.getD i 0).toNat) (hc.d 4 rfl rfl rfl rfl) rfl (by omega) (by omega) hc.z) <| DO tab4 7 (fun f' L' w' hc=> zaH (s := [48, 49, 50, 51, 52, 53, 54, 55, 56, 57, 97, 98, 99, 100, 101, 102]) ty9 rfl (hc.d 5 rfl rfl rfl rfl) (by omega) (by (have hl16 : ([48, 49, 50, 51, 52, 53, 54, 55, 56, 57, 97, 98, 99, 100, 101, 102] : Tx).length = 16 := rfl); omega) hc.z) <| RunD.op (fun v rs => ∃ b, v = .slice (some ⟨b, 0, none⟩) 4 4 ∧ rs = [Res.row b 5 ([.int .u8 92, .int .u8 120, .int .u8 ((([48, 49, 50, 51, 52, 53, 54, 55, 56, 57, 97, 98, 99, 100, 101, 102] : Tx).getD ((((s.getD i 0).toNat / 16 : Nat) : Int).toNat) 0).toNat : Int), .int .u8 ((([48, 49, 50, 51, 52, 53, 54, 55, 56, 57, 97, 98, 99, 100, 101, 102] : Tx).getD ((((s.getD i 0).toNat % 16 : Nat) : Int).toNat) 0).toNat : Int)])]) tab4 8 (fun _ _ _ hc => zaE (z0 := [.int .u8 0, .int .u8 0, .int .u8 0, .int .u8 0]) hc.st zcr ty5 rfl rfl (by kernel_rfl) (.c (v := .int .u8 _) rfl (h := (.c (v := .int .u8 _) rfl (h := (.c (v := .int .u8 _) (hc.d 3 rfl rfl rfl rfl) (h := (.c (v := .int .u8 _) (hc.d 6 rfl rfl rfl rfl) (h := .nil)))))))) fun w b hst => ⟨[_], ⟨b, rfl, rfl⟩, hst⟩) ?_
   refine RunD.fin zaw tab4 hst rfl (fun f5 w R8 hs6 hd7 hr9 hst => ?_)
   obtain ⟨h28_, r0⟩ := hd7 0 28 rfl rfl
   obtain ⟨h29_, r1⟩ := hd7 1 29 rfl rfl
   obtain ⟨h30_, r2⟩ := hd7 2 30 rfl rfl
   obtain ⟨h31_, r3⟩ := hd7 3 31 rfl rfl
   obtain ⟨h32_, r4⟩ := hd7 4 32 rfl rfl
   obtain ⟨h33_, r5⟩ := hd7 5 33 rfl rfl
   obtain ⟨h34_, r6⟩ := hd7 6 34 rfl rfl
   obtain ⟨b35, h35_, r7⟩ := hd7 7 35 rfl rfl
   simp only [rg8, Fc, Fn, Mc, Mn, r0, r1, r2, r3, r4, r5, r6, r7, Na, An, Ca] at hst
   refine zaD (sl := [(0, str _), (4, .int .i64 _), (28, .slice _ _ _), (35, .slice _ _ _)]) ⟨(hs6 0 rfl).trans rfl, (hs6 4 rfl).trans rfl, h28_, h35_, trivial⟩ ?_
   clear hs6 hd7 hr9 tab4
   refine CN (zaI (news := [.int .u8 92, .int .u8 120, .int .u8 ((([48, 49, 50, 51, 52, 53, 54, 55, 56, 57, 97, 98, 99, 100, 101, 102] : Tx).getD ((((s.getD i 0).toNat / 16 : Nat) : Int).toNat) 0).toNat : Int), .int .u8 ((([48, 49, 50, 51, 52, 53, 54, 55, 56, 57, 97, 98, 99, 100, 101, 102] : Tx).getD ((((s.getD i 0).toNat % 16 : Nat) : Int).toNat) 0).toNat : Int)]) hst zcr ty5 rfl rfl .u1 rfl rfl rfl (zac (n := 4) (hst.objL Q0) _ rfl) rfl rfl Om fun w ao10 cp11 hst => ?_)
   replace hst := hst.drop .u1
   refine AL rfl <| NL <| zaJ (id := 2) rfl <| zam <| zaj [(0, str _), (3, .slice _ _ _), (4, .int .i64 _)] E3 fun f => RG <| MI rfl <| CN <| zas rfl rfl rfl zbe <| AI rfl <| NL <| zay ?_
   rw [show (([48, 49, 50, 51, 52, 53, 54, 55, 56, 57, 97, 98, 99, 100, 101, 102] : Tx).getD ((((s.getD i 0).toNat / 16 : Nat) : Int).toNat) 0) = ziZ ((s.getD i 0).toNat / 16) from zmu _ (by omega), show (([48, 49, 50, 51, 52, 53, 54, 55, 56, 57, 97, 98, 99, 100, 101, 102] : Tx).getD ((((s.getD i 0).toNat % 16 : Nat) : Int).toNat) 0) = ziZ ((s.getD i 0).toNat % 16) from zmu _ (by omega)] at hst
   have hqs := ze8 (s := s) (i := i) Om (zgP Om)
   exact ih1 ((i + 1, ao10, cp11)) _ w ((by (try dsimp only); omega)) (by (try dsimp only); rw [hqs, List.length_append, List.flatMap_append]; exact hst) (by (try dsimp only); omega) ⟨rfl, trivial⟩ ⟨(by (try dsimp only); rw [hqs, List.length_append]; rfl), (Vi (by (try dsimp only); omega)), trivial⟩
  refine TK (t := 19) rfl (Vb (Df g3)) <| zad (v := .int .u8 _) rfl <| TK (t := 19) rfl (Vb (Df g3)) <| zbm rfl rfl <| CN <| zaq (u := .bool _) (Vb (Df g3)) rfl <| AB rfl <| NL <| zab rfl (fun g12 => ?_) (fun g12 => ?_)
  ·refine zaJ (id := 3) rfl <| SQ <| RunD.start [] hst (bs := [0, 0, 2, 6, 0, 16, 48, 126, 255, 511]) (ds := [some 28, some 29, some 30, some 31, some 32, some 33, some 34, some 35, some 36, some 3]) ⟨Kr, Kr, Kr⟩ (fun tab13 => ?_)
   refine DO tab13 1 (fun f' L' w' hc=> zad (v := .slice _ _ _) (hc.old rfl rfl rfl) hc.z) <| DO tab13 2 (fun f' L' w' hc=> zad (v := .int .u8 _) (hc.old rfl rfl rfl) hc.z) <| DO tab13 3 (fun f' L' w' hc=> zru (c := (((s.getD i 0).toNat / 16 : Nat) : Int)) (hc.d 1 rfl rfl rfl rfl) rfl (by decide) (by decide) (by rw [show (2 : Int) ^ (4 : Int).toNat = 16 from rfl]; omega) hc.z) <| DO tab13 4 (fun f' L' w' hc=> zaH (s := [48, 49, 50, 51, 52, 53, 54, 55, 56, 57, 97, 98, 99, 100, 101, 102]) ty9 rfl (hc.d 2 rfl rfl rfl rfl) (by omega) (by (have hl16 : ([48, 49, 50, 51, 52, 53, 54, 55, 56, 57, 97, 98, 99, 100, 101, 102] : Tx).length = 16 := rfl); omega) hc.z) <| DO tab13 5 (fun f' L' w' hc=> zad (v := .int .u8 _) (hc.old rfl rfl rfl) hc.z) <| DO tab13 6 (fun f' L' w' hc=> zo8 (m := (s.getD i 0).toNat) (hc.d 4 rfl rfl rfl rfl) rfl (by omega) (by omega) hc.z) <| DO tab13 7 (fun f' L' w' hc=> zaH (s := [48, 49, 50, 51, 52, 53, 54, 55, 56, 57, 97, 98, 99, 100, 101, 102]) ty9 rfl (hc.d 5 rfl rfl rfl rfl) (by omega) (by (have hl16 : ([48, 49, 50, 51, 52, 53, 54, 55, 56, 57, 97, 98, 99, 100, 101, 102] : Tx).length = 16 := rfl); omega) hc.z) <| RunD.op (fun v rs => ∃ b, v = .slice (some ⟨b, 0, none⟩) 4 4 ∧ rs = [Res.row b 5 ([.int .u8 92, .int .u8 120, .int .u8 ((([48, 49, 50, 51, 52, 53, 54, 55, 56, 57, 97, 98, 99, 100, 101, 102] : Tx).getD ((((s.getD i 0).toNat / 16 : Nat) : Int).toNat) 0).toNat : Int), .int .u8 ((([48, 49, 50, 51, 52, 53, 54, 55, 56, 57, 97, 98, 99, 100, 101, 102] : Tx).getD ((((s.getD i 0).toNat % 16 : Nat) : Int).toNat) 0).toNat : Int)])]) tab13 8 (fun _ _ _ hc => zaE (z0 := [.int .u8 0, .int .u8 0, .int .u8 0, .int .u8 0]) hc.st zcr ty5 rfl rfl (by kernel_rfl) (.c (v := .int .u8 _) rfl (h := (.c (v := .int .u8 _) rfl (h := (.c (v := .int .u8 _) (hc.d 3 rfl rfl rfl rfl) (h := (.c (v := .int .u8 _) (hc.d 6 rfl rfl rfl rfl) (h := .nil)))))))) fun w b hst => ⟨[_], ⟨b, rfl, rfl⟩, hst⟩) ?_
   refine RunD.fin zaw tab13 hst rfl (fun f14 w R17 hs15 hd16 hr18 hst => ?_)
   obtain ⟨h28_, r0⟩ := hd16 0 28 rfl rfl
   obtain ⟨h29_, r1⟩ := hd16 1 29 rfl rfl
   obtain ⟨h30_, r2⟩ := hd16 2 30 rfl rfl
   obtain ⟨h31_, r3⟩ := hd16 3 31 rfl rfl
   obtain ⟨h32_, r4⟩ := hd16 4 32 rfl rfl
   obtain ⟨h33_, r5⟩ := hd16 5 33 rfl rfl
   obtain ⟨h34_, r6⟩ := hd16 6 34 rfl rfl
   obtain ⟨b35, h35_, r7⟩ := hd16 7 35 rfl rfl
   simp only [rg8, Fc, Fn, Mc, Mn, r0, r1, r2, r3, r4, r5, r6, r7, Na, An, Ca] at hst
   refine zaD (sl := [(0, str _), (4, .int .i64 _), (28, .slice _ _ _), (35, .slice _ _ _)]) ⟨(hs15 0 rfl).trans rfl, (hs15 4 rfl).trans rfl, h28_, h35_, trivial⟩ ?_
   clear hs15 hd16 hr18 tab13
   refine CN (zaI (news := [.int .u8 92, .int .u8 120, .int .u8 ((([48, 49, 50, 51, 52, 53, 54, 55, 56, 57, 97, 98, 99, 100, 101, 102] : Tx).getD ((((s.getD i 0).toNat / 16 : Nat) : Int).toNat) 0).toNat : Int), .int .u8 ((([48, 49, 50, 51, 52, 53, 54, 55, 56, 57, 97, 98, 99, 100, 101, 102] : Tx).getD ((((s.getD i 0).toNat % 16 : Nat) : Int).toNat) 0).toNat : Int)]) hst zcr ty5 rfl rfl .u1 rfl rfl rfl (zac (n := 4) (hst.objL Q0) _ rfl) rfl rfl Om fun w ao19 cp20 hst => ?_)
   replace hst := hst.drop .u1
   refine AL rfl <| NL <| zaJ (id := 2) rfl <| zam <| zaj [(0, str _), (3, .slice _ _ _), (4, .int .i64 _)] E3 fun f => RG <| MI rfl <| CN <| zas rfl rfl rfl zbe <| AI rfl <| NL <| zay ?_
   rw [show (([48, 49, 50, 51, 52, 53, 54, 55, 56, 57, 97, 98, 99, 100, 101, 102] : Tx).getD ((((s.getD i 0).toNat / 16 : Nat) : Int).toNat) 0) = ziZ ((s.getD i 0).toNat / 16) from zmu _ (by omega), show (([48, 49, 50, 51, 52, 53, 54, 55, 56, 57, 97, 98, 99, 100, 101, 102] : Tx).getD ((((s.getD i 0).toNat % 16 : Nat) : Int).toNat) 0) = ziZ ((s.getD i 0).toNat % 16) from zmu _ (by omega)] at hst
   have hqs := ze8 (s := s) (i := i) Om (zgP Om)
   exact ih1 ((i + 1, ao19, cp20)) _ w ((by (try dsimp only); omega)) (by (try dsimp only); rw [hqs, List.length_append, List.flatMap_append]; exact hst) (by (try dsimp only); omega) ⟨rfl, trivial⟩ ⟨(by (try dsimp only); rw [hqs, List.length_append]; rfl), (Vi (by (try dsimp only); omega)), trivial⟩
  refine zaf <| SQ <| SR <| MC rfl <| CN <| zak rfl rfl <| AB rfl <| NL <| zab rfl (fun g21 => ?_) (fun g21 => ?_)
  ·refine zaf <| zax (Vb (Dt g21)) <| zaJ (id := 4) rfl <| RG <| ML rfl <| CN (zaE (z0 := [.int .u8 0]) hst zcr ty5 rfl rfl Kr (.c (v := .int .u8 _) rfl (h := .nil)) fun w b38 hst => ?_)
   refine CN (zaI (news := byC 92) hst zcr ty5 rfl rfl .u1 rfl rfl rfl (zac (n := 1) (hst.objL Q0) _ rfl) rfl rfl Om fun w ao22 cp23 hst => ?_)
   replace hst := hst.drop .u1
   refine AL rfl <| NL <| zam <| zaj [(0, str _), (3, .slice _ _ _), (4, .int .i64 _), (5, .int .u8 _)] E4 fun f => SR <| ML rfl <| MC rfl <| CN (zaE (z0 := [.int .u8 0]) hst zcr ty5 rfl rfl Kr (.c (v := .int .u8 _) rfl (h := .nil)) fun w b42 hst => ?_)
   refine CN (zaI (news := byC (s.getD ((i : Int).toNat) 0)) hst zcr ty5 rfl rfl .u1 rfl rfl rfl (zac (n := 1) (hst.objL Q0) _ rfl) rfl rfl Om fun w ao24 cp25 hst => ?_)
   replace hst := hst.drop .u1
   refine AL rfl <| NL <| zaJ (id := 2) rfl <| zam <| RG <| MI rfl <| CN <| zas rfl rfl rfl zbe <| AI rfl <| NL <| zay ?_
   have hqs := ze8 (s := s) (i := i) Om (zgQ Om Om)
   exact ih1 ((i + 1, ao24, cp25)) _ w ((by (try dsimp only); omega)) (by (try dsimp only); rw [hqs, List.length_append, List.flatMap_append]; rw [List.append_assoc] at hst; exact hst) (by (try dsimp only); omega) ⟨rfl, trivial⟩ ⟨(by (try dsimp only); rw [hqs, List.length_append]; rfl), (Vi (by (try dsimp only); omega)), trivial⟩
  refine RG <| MC rfl <| CN <| zak rfl rfl <| AB rfl <| NL <| zaj [(0, str _), (3, .slice _ _ _), (4, .int .i64 _), (5, .int .u8 _), (23, .bool _)] E5 fun f => zab rfl (fun g26 => ?_) (fun g26 => ?_)
  ·refine zaJ (id := 4) rfl <| RG <| ML rfl <| CN (zaE (z0 := [.int .u8 0]) hst zcr ty5 rfl rfl Kr (.c (v := .int .u8 _) rfl (h := .nil)) fun w b38 hst => ?_)
   refine CN (zaI (news := byC 92) hst zcr ty5 rfl rfl .u1 rfl rfl rfl (zac (n := 1) (hst.objL Q0) _ rfl) rfl rfl Om fun w ao27 cp28 hst => ?_)
   replace hst := hst.drop .u1
   refine AL rfl <| NL <| zam <| SR <| ML rfl <| MC rfl <| CN (zaE (z0 := [.int .u8 0]) hst zcr ty5 rfl rfl Kr (.c (v := .int .u8 _) rfl (h := .nil)) fun w b42 hst => ?_)
   refine CN (zaI (news := byC (s.getD ((i : Int).toNat) 0)) hst zcr ty5 rfl rfl .u1 rfl rfl rfl (zac (n := 1) (hst.objL Q0) _ rfl) rfl rfl Om fun w ao29 cp30 hst => ?_)
   replace hst := hst.drop .u1
   refine AL rfl <| NL <| zaJ (id := 2) rfl <| zam <| RG <| MI rfl <| CN <| zas rfl rfl rfl zbe <| AI rfl <| NL <| zay ?_
   have hqs := ze8 (s := s) (i := i) Om (zgQ Om Om)
   exact ih1 ((i + 1, ao29, cp30)) _ w ((by (try dsimp only); omega)) (by (try dsimp only); rw [hqs, List.length_append, List.flatMap_append]; rw [List.append_assoc] at hst; exact hst) (by (try dsimp only); omega) ⟨rfl, trivial⟩ ⟨(by (try dsimp only); rw [hqs, List.length_append]; rfl), (Vi (by (try dsimp only); omega)), trivial⟩
  refine zaf <| zaJ (id := 5) rfl <| SR <| ML rfl <| MC rfl <| CN (zaE (z0 := [.int .u8 0]) hst zcr ty5 rfl rfl Kr (.c (v := .int .u8 _) rfl (h := .nil)) fun w b42 hst => ?_)
  refine CN (zaI (news := byC (s.getD ((i : Int).toNat) 0)) hst zcr ty5 rfl rfl .u1 rfl rfl rfl (zac (n := 1) (hst.objL Q0) _ rfl) rfl rfl Om fun w ao31 cp32 hst => ?_)
  replace hst := hst.drop .u1
  refine AL rfl <| NL <| zaJ (id := 2) rfl <| zam <| RG <| MI rfl <| CN <| zas rfl rfl rfl zbe <| AI rfl <| NL <| zay ?_
  have hqs := ze8 (s := s) (i := i) Om (zjk Om Om)
  exact ih1 ((i + 1, ao31, cp32)) _ w ((by (try dsimp only); omega)) (by (try dsimp only); rw [hqs, List.length_append, List.flatMap_append]; exact hst) (by (try dsimp only); omega) ⟨rfl, trivial⟩ ⟨(by (try dsimp only); rw [hqs, List.length_append]; rfl), (Vi (by (try dsimp only); omega)), trivial⟩
 refine zaJ (id := 0) rfl <| SR <| ML rfl <| CN (zaE (z0 := [.int .u8 0]) hst zcr ty5 rfl rfl Kr (.c (v := .int .u8 _) rfl (h := .nil)) fun w b45 hst => ?_)
 refine CN (zaI (news := byC 34) hst zcr ty5 rfl rfl .u1 rfl rfl rfl (zac (n := 1) (hst.objL Q0) _ rfl) rfl rfl Om fun w ao33 cp34 hst => ?_)
 replace hst := hst.drop .u1
 refine CN <| zc7 (l := zd0 s) zcr ty5 ty9 rfl (by rw [← znC (i := i) (by omega), List.length_append]; rfl) (Res.rs_of_sl (hst.hL _ Q0)) (by rw [← znC (i := i) (by omega), List.flatMap_append]; rfl) <| AS rfl <| NL <| zah Tryz.func165 rfl (TP (v := str _) rfl) ?_
 exact ⟨rfl, hst.pure⟩
end Go.SK
namespace Go.SK
open Go Go.Proofs
theorem ent165 : zaN Tryz.prog 165 := ⟨Tryz.f165, _, Tryz.func165, Kr, rfl⟩
theorem ent115 : zaN Tryz.prog 115 := ⟨Tryz.f115, _, Tryz.func115, Kr, rfl⟩
theorem ent116 : zaN Tryz.prog 116 := ⟨Tryz.f116, _, Tryz.func116, Kr, rfl⟩
end Go.SK
namespace Go.SK
open Go Go.Proofs
open Go.RowKit
theorem zsw (t : TokL) (w : World) (hG : LxG.holds w) (hl : t.text.length ≤ 1099511627776) : Ret Tryz.prog 115 #[.agg #[.int .u8 t.kind, str t.text, .int .i64 t.at_]] w (fun v w' => (∃ x, wrT t = some x ∧ v = .tuple #[str x, .bool true] ∧ St w NoM [] [] w') ∨ (wrT t = none ∧ ∃ y, v = .tuple #[str y, .bool false] ∧ St w NoM [] [] w')) := by
 refine zav (args := [.agg #[.int .u8 t.kind, str t.text, .int .i64 t.at_]]) Tryz.func115 rfl rfl rfl ?_
 have hst : St w NoM [] [LxG] w := St.init_Ds (by simp only [List.forall_mem_cons]; exact ⟨hG, fun _ h => absurd h List.not_mem_nil⟩)
 refine SR <| CN <| zbi (v := zbO _ _ _) hst rfl rfl fun w b1 hst => AS rfl <| AB rfl <| NL <| SQ <| SR <| CN <| zaa zfc rfl <| CN <| zae (v := .int .u8 _) ty5 rfl rfl (hst.cellL Q0 rfl) <| NL <| zao <| SQ <| RG ?_
 refine CN <| zak rfl rfl <| AB rfl <| NL <| zab rfl (fun g1 => ?_) (fun g1 => ?_)
 ·refine SQ <| RunD.start [] hst (bs := [0, 1, 0, 4, 12, 28, 60, 124, 252, 508, 1020, 2044, 4092, 8188, 16380, 32764, 8188, 73724, 262140, 524284, 65535, 2097151]) (ds := [some 12, some 13, some 14, some 15, some 16, some 17, some 18, some 19, some 20, some 21, some 22, some 23, some 24, some 25, some 26, some 27, some 28, some 29, some 30, some 31, some 2, some 3]) ⟨Kr, Kr, Kr⟩ (fun tab2 => ?_)
  refine DO tab2 1 (fun f' L' w' hc=> zaa zbl (hc.old (v := Pp _ _) rfl rfl rfl) hc.z) <| DO tab2 2 (fun f' L' w' hc=> zae (v := str _) ty9 rfl (hc.d 0 rfl rfl rfl rfl) (hc.st.cellL (List.mem_append_right _ Q0) rfl) hc.z) <| DO tab2 3 (fun f' L' w' hc=> zaa zbl (hc.old (v := Pp _ _) rfl rfl rfl) hc.z) <| DO tab2 4 (fun f' L' w' hc=> zae (v := str _) ty9 rfl (hc.d 2 rfl rfl rfl rfl) (hc.st.cellL (List.mem_append_right _ Q0) rfl) hc.z) <| DO tab2 5 (fun f' L' w' hc=> zcN (hc.d 3 rfl rfl rfl rfl) rfl hc.z) <| DO tab2 6 (fun _ _ _ hc => zad (v := .bool _) (hc.d 4 rfl rfl rfl rfl) hc.z) <| zcM (j := 5) rfl (fun g3 => ?_) (fun g3 => ?_)
  ·have hpos : 0 < t.text.length := List.length_pos_iff.2 g3
   refine RunD.take (det _) tab2 7 rfl (fun f' L' w' hc=> (hc.d 5 rfl rfl rfl rfl).trans (Vb (Dt g3))) (fun f' L' w' hc=> zaa zbl (hc.old (v := Pp _ _) rfl rfl rfl) hc.z) <| RunD.take (det _) tab2 8 rfl (fun f' L' w' hc=> (hc.d 5 rfl rfl rfl rfl).trans (Vb (Dt g3))) (fun f' L' w' hc=> zae (v := str _) ty9 rfl (hc.d 6 rfl rfl rfl rfl) (hc.st.cellL (List.mem_append_right _ Q0) rfl) hc.z) <| RunD.take (det _) tab2 9 rfl (fun f' L' w' hc=> (hc.d 5 rfl rfl rfl rfl).trans (Vb (Dt g3))) (fun f' L' w' hc=> zaH ty9 (hc.d 7 rfl rfl rfl rfl) rfl Om Om hc.z) <| RunD.take (det _) tab2 10 rfl (fun f' L' w' hc=> (hc.d 5 rfl rfl rfl rfl).trans (Vb (Dt g3))) (fun f' L' w' hc=> Op1.call1 (v1 := .int .u8 _) zud rfl (hc.d 8 rfl rfl rfl rfl) ((zeL _ _).mono fun v w hp => ⟨[], ⟨hp.1, rfl⟩, hc.st.keepc hp.2⟩)) <| RunD.take (det _) tab2 11 rfl (fun f' L' w' hc=> (hc.d 5 rfl rfl rfl rfl).trans (Vb (Dt g3))) (fun f' L' w' hc=> zak (hc.d 9 rfl rfl rfl rfl) rfl hc.z) <| DO tab2 12 (fun f' L' w' hc=> zap (u := .bool _) (((hc.d 5 rfl rfl rfl rfl)).trans (Vb (Dt g3))) (hc.d 10 rfl rfl rfl rfl) hc.z) <| DO tab2 13 (fun _ _ _ hc => zad (v := .bool _) (hc.d 11 rfl rfl rfl rfl) hc.z) <| zcM (j := 12) rfl (fun g4 => ?_) (fun g4 => ?_)
   ·refine RunD.take (det _) tab2 14 rfl (fun f' L' w' hc=> (hc.d 12 rfl rfl rfl rfl).trans (Vb (Dt g4))) (fun f' L' w' hc=> zaa zbl (hc.old (v := Pp _ _) rfl rfl rfl) hc.z) <| RunD.take (det _) tab2 15 rfl (fun f' L' w' hc=> (hc.d 12 rfl rfl rfl rfl).trans (Vb (Dt g4))) (fun f' L' w' hc=> zae (v := str _) ty9 rfl (hc.d 13 rfl rfl rfl rfl) (hc.st.cellL (List.mem_append_right _ Q0) rfl) hc.z) <| RunD.take (det _) tab2 16 rfl (fun f' L' w' hc=> (hc.d 12 rfl rfl rfl rfl).trans (Vb (Dt g4))) (fun f' L' w' hc=> Op1.call1 (v1 := str _) zsk rfl (hc.d 14 rfl rfl rfl rfl) ((zg4 t.text _ Om).mono fun v w hp => ⟨[], ⟨hp.1, rfl⟩, hc.st.keepc hp.2⟩)) <| RunD.take (det _) tab2 17 rfl (fun f' L' w' hc=> (hc.d 12 rfl rfl rfl rfl).trans (Vb (Dt g4))) (fun f' L' w' hc=> zaa zbl (hc.old (v := Pp _ _) rfl rfl rfl) hc.z) <| RunD.take (det _) tab2 18 rfl (fun f' L' w' hc=> (hc.d 12 rfl rfl rfl rfl).trans (Vb (Dt g4))) (fun f' L' w' hc=> zae (v := str _) ty9 rfl (hc.d 16 rfl rfl rfl rfl) (hc.st.cellL (List.mem_append_right _ Q0) rfl) hc.z) <| RunD.take (det _) tab2 19 rfl (fun f' L' w' hc=> (hc.d 12 rfl rfl rfl rfl).trans (Vb (Dt g4))) (fun f' L' w' hc=> zbV (hc.d 15 rfl rfl rfl rfl) (hc.d 17 rfl rfl rfl rfl) hc.z) <| DO tab2 20 (fun f' L' w' hc=> zap (u := .bool _) (((hc.d 12 rfl rfl rfl rfl)).trans (Vb (Dt g4))) (hc.d 18 rfl rfl rfl rfl) hc.z) <| DO tab2 21 (fun _ _ _ hc => Op1.assign (v := str _) (hc.d 1 rfl rfl rfl rfl) hc.z) <| RunD.fin zaw tab2 hst rfl (fun f5 w R8 hs6 hd7 hr9 hst => ?_)
    obtain ⟨h12_, r0⟩ := hd7 0 12 rfl rfl
    obtain ⟨h13_, r1⟩ := hd7 1 13 rfl rfl
    obtain ⟨h14_, r2⟩ := hd7 2 14 rfl rfl
    obtain ⟨h15_, r3⟩ := hd7 3 15 rfl rfl
    obtain ⟨h16_, r4⟩ := hd7 4 16 rfl rfl
    obtain ⟨h17_, r5⟩ := hd7 5 17 rfl rfl
    obtain ⟨h18_, r6⟩ := hd7 6 18 rfl rfl
    obtain ⟨h19_, r7⟩ := hd7 7 19 rfl rfl
    obtain ⟨h20_, r8⟩ := hd7 8 20 rfl rfl
    obtain ⟨h21_, r9⟩ := hd7 9 21 rfl rfl
    obtain ⟨h22_, r10⟩ := hd7 10 22 rfl rfl
    obtain ⟨h23_, r11⟩ := hd7 11 23 rfl rfl
    obtain ⟨h24_, r12⟩ := hd7 12 24 rfl rfl
    obtain ⟨h25_, r13⟩ := hd7 13 25 rfl rfl
    obtain ⟨h26_, r14⟩ := hd7 14 26 rfl rfl
    obtain ⟨h27_, r15⟩ := hd7 15 27 rfl rfl
    obtain ⟨h28_, r16⟩ := hd7 16 28 rfl rfl
    obtain ⟨h29_, r17⟩ := hd7 17 29 rfl rfl
    obtain ⟨h30_, r18⟩ := hd7 18 30 rfl rfl
    obtain ⟨h31_, r19⟩ := hd7 19 31 rfl rfl
    obtain ⟨h2_, r20⟩ := hd7 20 2 rfl rfl
    simp only [rg21, Fc, Fn, Mc, Mn, r0, r1, r2, r3, r4, r5, r6, r7, r8, r9, r10, r11, r12, r13, r14, r15, r16, r17, r18, r19, r20, Na, An, Ca] at hst
    refine zaD (sl := [(2, str _), (31, .bool _)]) ⟨h2_, h31_, trivial⟩ ?_
    clear hs6 hd7 hr9 tab2
    refine AB rfl <| NL <| zai Tryz.func115 rfl (TP (v := str _) rfl) (TP (v := .bool _) rfl) ?_
    by_cases hz : zch t.text = t.text
    ·rw [Dt hz]; exact .inl ⟨_, zqs (by omega) g3 ((zjq _).1 g4) hz, rfl, hst.pure⟩
    ·rw [Df hz]; exact .inr ⟨zla (by omega) (fun q => hz q.2.2), _, rfl, hst.pure⟩
   refine zaX tab2 14 rfl rfl (fun f' L' w' hc=> (hc.d 12 rfl rfl rfl rfl).trans (Vb (Df g4))) <| zaX tab2 15 rfl rfl (fun f' L' w' hc=> (hc.d 12 rfl rfl rfl rfl).trans (Vb (Df g4))) <| zaX tab2 16 rfl rfl (fun f' L' w' hc=> (hc.d 12 rfl rfl rfl rfl).trans (Vb (Df g4))) <| zaX tab2 17 rfl rfl (fun f' L' w' hc=> (hc.d 12 rfl rfl rfl rfl).trans (Vb (Df g4))) <| zaX tab2 18 rfl rfl (fun f' L' w' hc=> (hc.d 12 rfl rfl rfl rfl).trans (Vb (Df g4))) <| zaX tab2 19 rfl rfl (fun f' L' w' hc=> (hc.d 12 rfl rfl rfl rfl).trans (Vb (Df g4))) <| DO tab2 20 (fun f' L' w' hc=> zaq (u := .bool _) (((hc.d 12 rfl rfl rfl rfl)).trans (Vb (Df g4))) rfl hc.z) <| DO tab2 21 (fun _ _ _ hc => Op1.assign (v := str _) (hc.d 1 rfl rfl rfl rfl) hc.z) <| RunD.fin zaw tab2 hst rfl (fun f10 w R13 hs11 hd12 hr14 hst => ?_)
   obtain ⟨h12_, r0⟩ := hd12 0 12 rfl rfl
   obtain ⟨h13_, r1⟩ := hd12 1 13 rfl rfl
   obtain ⟨h14_, r2⟩ := hd12 2 14 rfl rfl
   obtain ⟨h15_, r3⟩ := hd12 3 15 rfl rfl
   obtain ⟨h16_, r4⟩ := hd12 4 16 rfl rfl
   obtain ⟨h17_, r5⟩ := hd12 5 17 rfl rfl
   obtain ⟨h18_, r6⟩ := hd12 6 18 rfl rfl
   obtain ⟨h19_, r7⟩ := hd12 7 19 rfl rfl
   obtain ⟨h20_, r8⟩ := hd12 8 20 rfl rfl
   obtain ⟨h21_, r9⟩ := hd12 9 21 rfl rfl
   obtain ⟨h22_, r10⟩ := hd12 10 22 rfl rfl
   obtain ⟨h23_, r11⟩ := hd12 11 23 rfl rfl
   obtain ⟨h24_, r12⟩ := hd12 12 24 rfl rfl
   obtain ⟨h25_, r13⟩ := hd12 13 25 rfl rfl
   obtain ⟨h26_, r14⟩ := hd12 14 26 rfl rfl
   obtain ⟨h27_, r15⟩ := hd12 15 27 rfl rfl
   obtain ⟨h28_, r16⟩ := hd12 16 28 rfl rfl
   obtain ⟨h29_, r17⟩ := hd12 17 29 rfl rfl
   obtain ⟨h30_, r18⟩ := hd12 18 30 rfl rfl
   obtain ⟨h31_, r19⟩ := hd12 19 31 rfl rfl
   obtain ⟨h2_, r20⟩ := hd12 20 2 rfl rfl
   simp only [rg21, Fc, Fn, Mc, Mn, r0, r1, r2, r3, r4, r5, r6, r7, r8, r9, r10, r11, r12, r13, r14, r15, r16, r17, r18, r19, r20, Na, An, Ca] at hst
   refine zaD (sl := [(2, str _), (31, .bool _)]) ⟨h2_, h31_, trivial⟩ ?_
   clear hs11 hd12 hr14 tab2
   refine AB rfl <| NL <| zai Tryz.func115 rfl (TP (v := str _) rfl) (TP (v := .bool _) rfl) ?_
   exact .inr ⟨zla Om (fun q => g4 ((zjq _).2 q.2.1)), _, rfl, hst.pure⟩
  refine zaX tab2 7 rfl rfl (fun f' L' w' hc=> (hc.d 5 rfl rfl rfl rfl).trans (Vb (Df g3))) <| zaX tab2 8 rfl rfl (fun f' L' w' hc=> (hc.d 5 rfl rfl rfl rfl).trans (Vb (Df g3))) <| zaX tab2 9 rfl rfl (fun f' L' w' hc=> (hc.d 5 rfl rfl rfl rfl).trans (Vb (Df g3))) <| zaX tab2 10 rfl rfl (fun f' L' w' hc=> (hc.d 5 rfl rfl rfl rfl).trans (Vb (Df g3))) <| zaX tab2 11 rfl rfl (fun f' L' w' hc=> (hc.d 5 rfl rfl rfl rfl).trans (Vb (Df g3))) <| DO tab2 12 (fun f' L' w' hc=> zaq (u := .bool _) (((hc.d 5 rfl rfl rfl rfl)).trans (Vb (Df g3))) rfl hc.z) <| DO tab2 13 (fun f' L' w' hc=> zad (v := .bool _) (hc.d 11 rfl rfl rfl rfl) hc.z) <| zaX tab2 14 rfl rfl (fun f' L' w' hc=> (hc.d 12 rfl rfl rfl rfl).trans (Vb (rfl : false = _))) <| zaX tab2 15 rfl rfl (fun f' L' w' hc=> (hc.d 12 rfl rfl rfl rfl).trans (Vb (rfl : false = _))) <| zaX tab2 16 rfl rfl (fun f' L' w' hc=> (hc.d 12 rfl rfl rfl rfl).trans (Vb (rfl : false = _))) <| zaX tab2 17 rfl rfl (fun f' L' w' hc=> (hc.d 12 rfl rfl rfl rfl).trans (Vb (rfl : false = _))) <| zaX tab2 18 rfl rfl (fun f' L' w' hc=> (hc.d 12 rfl rfl rfl rfl).trans (Vb (rfl : false = _))) <| zaX tab2 19 rfl rfl (fun f' L' w' hc=> (hc.d 12 rfl rfl rfl rfl).trans (Vb (rfl : false = _))) <| DO tab2 20 (fun f' L' w' hc=> zaq (u := .bool _) (((hc.d 12 rfl rfl rfl rfl)).trans (Vb (rfl : false = _))) rfl hc.z) <| DO tab2 21 (fun _ _ _ hc => Op1.assign (v := str _) (hc.d 1 rfl rfl rfl rfl) hc.z) ?_
  refine RunD.fin zaw tab2 hst rfl (fun f15 w R18 hs16 hd17 hr19 hst => ?_)
  obtain ⟨h12_, r0⟩ := hd17 0 12 rfl rfl
  obtain ⟨h13_, r1⟩ := hd17 1 13 rfl rfl
  obtain ⟨h14_, r2⟩ := hd17 2 14 rfl rfl
  obtain ⟨h15_, r3⟩ := hd17 3 15 rfl rfl
  obtain ⟨h16_, r4⟩ := hd17 4 16 rfl rfl
  obtain ⟨h17_, r5⟩ := hd17 5 17 rfl rfl
  obtain ⟨h18_, r6⟩ := hd17 6 18 rfl rfl
  obtain ⟨h19_, r7⟩ := hd17 7 19 rfl rfl
  obtain ⟨h20_, r8⟩ := hd17 8 20 rfl rfl
  obtain ⟨h21_, r9⟩ := hd17 9 21 rfl rfl
  obtain ⟨h22_, r10⟩ := hd17 10 22 rfl rfl
  obtain ⟨h23_, r11⟩ := hd17 11 23 rfl rfl
  obtain ⟨h24_, r12⟩ := hd17 12 24 rfl rfl
  obtain ⟨h25_, r13⟩ := hd17 13 25 rfl rfl
  obtain ⟨h26_, r14⟩ := hd17 14 26 rfl rfl
  obtain ⟨h27_, r15⟩ := hd17 15 27 rfl rfl
  obtain ⟨h28_, r16⟩ := hd17 16 28 rfl rfl
  obtain ⟨h29_, r17⟩ := hd17 17 29 rfl rfl
  obtain ⟨h30_, r18⟩ := hd17 18 30 rfl rfl
  obtain ⟨h31_, r19⟩ := hd17 19 31 rfl rfl
  obtain ⟨h2_, r20⟩ := hd17 20 2 rfl rfl
  simp only [rg21, Fc, Fn, Mc, Mn, r0, r1, r2, r3, r4, r5, r6, r7, r8, r9, r10, r11, r12, r13, r14, r15, r16, r17, r18, r19, r20, Na, An, Ca] at hst
  refine zaD (sl := [(2, str _), (31, .bool _)]) ⟨h2_, h31_, trivial⟩ ?_
  clear hs16 hd17 hr19 tab2
  refine AB rfl <| NL <| zai Tryz.func115 rfl (TP (v := str _) rfl) (TP (v := .bool _) rfl) ?_
  exact .inr ⟨zla Om (fun q => g3 q.1), _, rfl, hst.pure⟩
 refine SR <| CN <| zak rfl rfl <| AB rfl <| NL <| zab rfl (fun g20 => ?_) (fun g20 => ?_)
 ·refine SR <| CN <| zaa zbl rfl <| CN <| zae (v := str _) ty9 rfl rfl (hst.cellL Q0 rfl) <| CN <| Op1.call1 (v1 := str _) zwi rfl rfl <| Ret.det (zg5 t.text _ (hst.hD _ Q0) Om) hst fun w hst => CN <| zad (v := .tuple #[.int .u32 _, .bool _]) rfl <| CN <| Ex (.int .u32 _) rfl rfl <| CN <| Ex (.bool _) rfl rfl <| AU rfl <| AB rfl <| NSR <| CN <| zaa zbl rfl <| CN (zae (v := str _) ty9 rfl rfl (hst.cellL Q0 rfl) ?_)
  refine CN <| zcD rfl rfl (by first | omega | (simp only [List.length_cons, List.length_nil, List.length_append]; omega) | (simp; omega)) <| MB rfl <| AS rfl <| AB rfl <| NL <| zai Tryz.func115 rfl (TP (v := str _) rfl) (TP (v := .bool _) rfl) ?_
  cases hz : (zbn t.text).isSome
  ·exact .inr ⟨zwU Om (zwc hz), _, rfl, hst.pure⟩
  ·exact .inl ⟨_, zqr Om hz, rfl, hst.pure⟩
 refine SR <| CN <| zak rfl rfl <| AB rfl <| NL <| zab rfl (fun g21 => ?_) (fun g21 => ?_)
 ·refine SR <| CN <| zaa zbl rfl <| CN <| zae (v := str _) ty9 rfl rfl (hst.cellL Q0 rfl) <| CN <| Op1.call1 (v1 := str _) zpJ rfl rfl <| Ret.det (zdn t.text _ (hst.hD _ Q0) Om) hst fun w hst => CN <| zad (v := .tuple #[.int .u32 _, .int .i64 _]) rfl <| CN <| Ex (.int .u32 _) rfl rfl <| CN <| Ex (.int .i64 _) rfl rfl <| AU rfl <| AI rfl <| NL <| zaj [(1, Pp _ _), (7, .int .i64 _)] E2 fun f => SR <| CN (zaa zbl rfl ?_)
  refine CN <| zae (v := str _) ty9 rfl rfl (hst.cellL Q0 rfl) <| MI rfl <| CN <| zak rfl rfl <| AS rfl <| AB rfl <| NL <| zai Tryz.func115 rfl (TP (v := str _) rfl) (TP (v := .bool _) rfl) ?_
  by_cases hz : (zba t.text).2 = 0
  ·rw [Dt hz]; exact .inl ⟨_, zqq (by omega) hz, rfl, hst.pure⟩
  ·rw [Df hz]; exact .inr ⟨zwT (by omega) hz, _, rfl, hst.pure⟩
 refine SR <| CN <| zak rfl rfl <| AB rfl <| NL <| zab rfl (fun g22 => ?_) (fun g22 => ?_)
 ·refine SR <| CN <| zaa zbl rfl <| CN <| zae (v := str _) ty9 rfl rfl (hst.cellL Q0 rfl) <| CN <| Op1.call1 (v1 := str _) ent165 rfl rfl <| Ret.det (zqb t.text _ hl) hst fun w hst => AS rfl <| AB rfl <| NL <| zai Tryz.func115 rfl (TP (v := str _) rfl) (TP (v := .bool _) rfl) ?_
  exact .inl ⟨_, zm9 Om, rfl, hst.pure⟩
 refine SR <| CN <| zak rfl rfl <| AB rfl <| NL <| zab rfl (fun g23 => ?_) (fun g23 => ?_)
 ·refine SQ <| RunD.start [] hst (bs := [0, 1, 0, 4, 12, 3, 63]) (ds := [some 63, some 64, some 65, some 66, some 67, some 2, some 3]) ⟨Kr, Kr, Kr⟩ (fun tab24 => ?_)
  refine DO tab24 1 (fun f' L' w' hc=> zaa zbl (hc.old (v := Pp _ _) rfl rfl rfl) hc.z) <| DO tab24 2 (fun f' L' w' hc=> zae (v := str _) ty9 rfl (hc.d 0 rfl rfl rfl rfl) (hc.st.cellL (List.mem_append_right _ Q0) rfl) hc.z) <| DO tab24 3 (fun f' L' w' hc=> zaa zbl (hc.old (v := Pp _ _) rfl rfl rfl) hc.z) <| DO tab24 4 (fun f' L' w' hc=> zae (v := str _) ty9 rfl (hc.d 2 rfl rfl rfl rfl) (hc.st.cellL (List.mem_append_right _ Q0) rfl) hc.z) <| DO tab24 5 (fun f' L' w' hc=> zbV (hc.d 3 rfl rfl rfl rfl) rfl hc.z) <| DO tab24 6 (fun _ _ _ hc => Op1.assign (v := str _) (hc.d 1 rfl rfl rfl rfl) hc.z) <| RunD.fin zaw tab24 hst rfl (fun f25 w R28 hs26 hd27 hr29 hst => ?_)
  obtain ⟨h63_, r0⟩ := hd27 0 63 rfl rfl
  obtain ⟨h64_, r1⟩ := hd27 1 64 rfl rfl
  obtain ⟨h65_, r2⟩ := hd27 2 65 rfl rfl
  obtain ⟨h66_, r3⟩ := hd27 3 66 rfl rfl
  obtain ⟨h67_, r4⟩ := hd27 4 67 rfl rfl
  obtain ⟨h2_, r5⟩ := hd27 5 2 rfl rfl
  simp only [rg6, Fc, Fn, Mc, Mn, r0, r1, r2, r3, r4, r5, Na, An, Ca] at hst
  refine zaD (sl := [(2, str _), (67, .bool _)]) ⟨h2_, h67_, trivial⟩ ?_
  clear hs26 hd27 hr29 tab24
  refine AB rfl <| NL <| zai Tryz.func115 rfl (TP (v := str _) rfl) (TP (v := .bool _) rfl) ?_
  by_cases hz : t.text = [61]
  ·rw [Dt hz]; exact .inl ⟨_, zjC (by omega) hz, by rw [hz], hst.pure⟩
  ·rw [Df hz]; exact .inr ⟨zwS (by omega) hz, _, rfl, hst.pure⟩
 refine zaf <| zam <| SR <| AS rfl <| AB rfl <| NL <| zai Tryz.func115 rfl (TP (v := str _) rfl) (TP (v := .bool _) rfl) ?_
 exact .inr ⟨wr_no Om Om Om Om Om, _, rfl, hst.pure⟩
theorem zkE (l : List TokL) (ao : Option Addr) (cp : Nat) (w : World) (hG : LxG.holds w) (hA0 : (Res.rs ao l.length 3 (l.flatMap zbW)).holds w) (hl : l.length ≤ 1099511627776) (hw : wsz l ≤ 1099511627776) : Ret Tryz.prog 63 #[.slice ao l.length cp] w (fun v w' => v = .tuple #[str (wrS l), .int .i64 (wrE l)] ∧ St w NoM [] [] w') := by
 refine zav (args := [.slice ao l.length cp]) Tryz.func63 rfl rfl rfl ?_
 have hst : St w NoM [] [LxG, Res.rs ao l.length 3 (l.flatMap zbW)] w := St.init_Ds (by simp only [List.forall_mem_cons]; exact ⟨hG, hA0, fun _ h => absurd h List.not_mem_nil⟩)
 refine SR <| AS rfl <| AI rfl <| NSR <| AL rfl <| NL <| SQ <| SR <| ML rfl <| CN <| zaQ (rest := []) zcB rfl <| MI rfl ?_
 refine NL <| zao <| zaV ?_
 replace hst := hst.pushNil 9 1
 refine zaU [(9, .slice _ _ _), (10, .int .i64 _)] E2 (fun (qq : Nat × List Tx × Option Addr × Nat) => [(4, .slice qq.2.2.1 qq.2.1.length qq.2.2.2), (11, .int .i64 (qq.1 : Int))]) (fun (qq : Nat × List Tx × Option Addr × Nat) => [Res.sl qq.2.2.1 qq.2.1.length qq.2.2.2 9 1 (qq.2.1.flatMap zsV)]) (fun (qq : Nat × List Tx × Option Addr × Nat) => wrI l qq.1 qq.2.1) (fun (qq : Nat × List Tx × Option Addr × Nat) => l.length - qq.1) ((0, [], none, 0)) hst (zm8 l) E2 ?_
 intro ⟨i, o, aq, cq⟩ f w hst hJ ih1
 replace hst : St _ _ ([Res.sl aq o.length cq 9 1 (o.flatMap zsV)] ++ []) _ _ := hst
 replace hJ : wrI l i o := hJ
 refine za2 (sl := [(4, .slice aq o.length cq), (11, .int .i64 (i : Int))]) E2 ?_
 have hjl := zjr o
 have hj1 := hJ.1
 have hj3 := hJ.2.2.1
 have hj2 := hJ.2.1
 refine SR <| CN <| zaS rfl rfl <| NL <| SQ <| zab rfl (fun g2 => ?_) (fun g2 => ?_)
 ·refine zaf <| SQ <| zao <| SR <| CN <| zaO zcB zbd (hst.hD _ Q1) rfl rfl Om Om <| CN <| zar (vs := zeS _ _ _) zbd rfl rfl rfl (Res.rs2_cells (m := 3) (hst.hD _ Q1) _ (zbG (g := zbW) (d := zaR) zbk _ _ Om)) <| CN <| Op1.alloc hst zbd fun w b6 hst => CN (SO (v := zbO _ _ _) hst zbd rfl rfl .u0 fun w hst => ?_)
  refine NSR <| CN (zar (vs := zeS _ _ _) zbd rfl rfl rfl (zac (n := 3) (hst.objL Q0) _ rfl) ?_)
  have hzt := zqm hJ Om
  have htx : ((l.getD ((i : Int).toNat) zaR).text).length = ((l.getD i zaR).text).length := rfl
  refine CN (Op1.call1 (v1 := zbO _ _ _) ent115 rfl rfl ((zsw (l.getD ((i : Int).toNat) zaR) _ (hst.hD _ Q0) Om).mono fun v w hp => ?_))
  rcases hp with ⟨x, hx, rfl, hp⟩ | ⟨hx, y, rfl, hp⟩
  ·replace hst := hst.keepc hp
   clear hp
   have hxl := zqo hx
   refine CN <| zad (v := .tuple #[str _, .bool _]) rfl <| CN <| Ex (str _) rfl rfl <| CN <| Ex (.bool _) rfl rfl <| AS rfl <| AB rfl <| NL <| SQ <| SR <| MB rfl <| CN <| zaZ rfl <| NL <| zat (Vb (congrArg not (rfl : true = _))) <| zaf <| RG ?_
   refine ML rfl <| MS rfl <| CN (zaE (z0 := [str []]) hst zjF ty9 rfl rfl Kr (.c (v := str _) rfl (h := .nil)) fun w b24 hst => ?_)
   refine CN (zaI (news := zsV x) hst zjF ty9 rfl rfl .u2 rfl rfl rfl (zac (n := 1) (hst.objL Q0) _ rfl) rfl rfl Om fun w ao3 cp4 hst => ?_)
   replace hst := hst.drop .u1
   refine AL rfl <| NL <| zam <| RG <| CN <| zas rfl rfl rfl zbe <| MI rfl <| NL <| zay ?_
   replace hst := hst.pick (.cons .u0 .nil)
   exact ih1 ((i + 1, o ++ [x], ao3, cp4)) _ w ((by (try dsimp only); omega)) (by rw [List.length_append, List.flatMap_append]; exact hst) (zlY hJ (by omega) hx) E2 ⟨(by simp only [List.length_append]; rfl), (Vi (by (try dsimp only); omega)), trivial⟩
  ·replace hst := hst.keepc hp
   clear hp
   refine CN <| zad (v := .tuple #[str _, .bool _]) rfl <| CN <| Ex (str _) rfl rfl <| CN <| Ex (.bool _) rfl rfl <| AS rfl <| AB rfl <| NL <| SQ <| SR <| MB rfl <| CN <| zaZ rfl <| NL <| zax (Vb (congrArg not (rfl : false = _))) <| SQ <| RG ?_
   refine AS rfl <| AI rfl <| NL <| zai Tryz.func63 rfl (TP (v := str _) rfl) (TP (v := .int .i64 _) rfl) ?_
   have hwf := zm7 (zwR hJ Om hx)
   rw [hwf.1, hwf.2]
   exact ⟨rfl, hst.pure⟩
 refine zaJ (id := 0) rfl <| SR <| ML rfl <| CN <| zaz (v1 := .slice _ _ _) (v2 := str _) ent116 rfl rfl rfl <| Ret.det (zxN o _ _ [32] _ (Res.rs_of_sl (hst.hL _ Q0)) (Res.sl_cap (hst.hL _ Q0)) Om Om) hst fun w hst => AS rfl <| AI rfl <| NL <| zai Tryz.func63 rfl (TP (v := str _) rfl) (TP (v := .int .i64 _) rfl) ?_
 have hwf := zdX (zs5 hJ Om)
 rw [hwf.1, hwf.2]
 exact ⟨rfl, hst.pure⟩
end Go.SK
namespace Go.SK
open Go Go.Proofs
theorem zsl : zaN Tryz.prog 32 := ⟨Tryz.f32, _, Tryz.func32, Kr, rfl⟩
end Go.SK
namespace Go.SK
open Go Go.Proofs
open Go.RowKit
theorem zc6 (p : InstP) (w : World) (hA : (Res.rargs p).holds w) (hl : p.args.length ≤ 5864062014806) : Ret Tryz.prog 32 #[.agg #[.int .u16 p.op, .int .u32 p.ty, .int .u32 p.res, .slice p.ao p.args.length p.cap]] w (fun v w' => ∃ bC, v = .agg #[.int .u16 p.op, .int .u32 p.ty, .int .u32 p.res, .slice (some ⟨bC, 0, none⟩) p.args.length p.args.length] ∧ St w NoM [Res.sl (some ⟨bC, 0, none⟩) p.args.length p.args.length 110 3 (p.args.flatMap zff)] [] w') := by
 refine zav (args := [.agg #[.int .u16 p.op, .int .u32 p.ty, .int .u32 p.res, .slice p.ao p.args.length p.cap]]) Tryz.func32 rfl rfl rfl ?_
 have hst : St w NoM [] [Res.rargs p] w := St.init_D hA
 clear hA
 refine SR <| CN <| zbi (v := zbb _ _ _ _ _ _) hst rfl rfl fun w b1 hst => CN <| Op1.alloc hst zbp fun w b2 hst => NSR <| CN <| zaa zbR rfl <| CN <| zae (v := .slice _ _ _) zdb rfl rfl (hst.cellL Q1 rfl) <| CN <| zaQ (rest := []) zdb rfl <| CN (zeP hst zdb za9 rfl rfl rfl De Om Om fun w bC hst => ?_)
 rw [zih (g := zff) (d := zeroA) (ez := [.int .u8 0, .int .u32 0, str []]) rfl p.args] at hst
 refine AL rfl <| NL <| SQ <| SR <| AI rfl <| NL <| zao <| zaV <| zaU [(1, Pp _ _), (2, Pp _ _), (3, .slice _ _ _)] E3 (fun (i : Nat) => [(4, .int .i64 (i : Int))]) (fun (i : Nat) => [Res.sl (some ⟨bC, 0, none⟩) p.args.length p.args.length 110 3 ((cpG zeroA p.args p.args.length i).flatMap zff)]) (fun (i : Nat) => i ≤ p.args.length) (fun (i : Nat) => p.args.length - i) (0) hst (Nat.zero_le _) ⟨rfl, trivial⟩ ?_
 intro i f w hst hJ ih1
 refine SQ <| SR <| MI rfl <| CN <| zaa zbR rfl <| CN <| zae (v := .slice _ _ _) zdb rfl rfl (hst.cellL Q2 rfl) <| CN <| zaQ (rest := []) zdb rfl <| CN <| zaS rfl rfl <| NL <| zab rfl (fun g2 => ?_) (fun g2 => ?_)
 ·refine zaf <| SQ <| zao <| RG <| ML rfl <| MI rfl <| CN <| zaa zbR rfl <| CN <| zae (v := .slice _ _ _) zdb rfl rfl (hst.cellL Q2 rfl) <| MI rfl <| CN <| zaO zdb za9 (hst.hD _ Q0) rfl rfl (by omega) (by omega) <| CN <| zar (vs := zcX _ _ _) za9 rfl rfl rfl (Res.rs2_cells (m := 3) (hst.hD _ Q0) _ (zbG (g := zff) (d := zeroA) zcL _ _ (by omega))) <| CN <| za5 zdb za9 rfl rfl (by omega) (by omega) <| CN <| zeO (v := zcy _ _ _) hst za9 rfl rfl rfl rfl rfl .u0 (by simp only [List.length_cons, List.length_nil]; omega) fun w hst => NL <| zam ?_
  refine RG <| MI rfl <| CN <| zas rfl rfl rfl zbe <| AI rfl <| NL <| zay ?_
  exact ih1 (i + 1) _ w (by omega) (by (try dsimp only); rw [← zrf (g := zff) (es := 3) zcL (i := i) (x := zff (p.args.getD i zeroA)) (by omega) rfl]; exact hst) (by omega) E3 ⟨(Vi (by omega)), trivial⟩
 obtain rfl : i = p.args.length := by omega
 rw [zuw] at hst
 refine zaJ (id := 0) rfl <| SR <| ML rfl <| CN <| zaa zbR rfl <| CN (SO (v := .slice _ _ _) hst zdb rfl rfl .u2 fun w hst => ?_)
 refine NSR <| CN <| zar (vs := zbg _ _ _ _ _ _) zbp rfl rfl rfl (zac (n := 4) (hst.objL Q2) _ rfl) <| CN (SO (v := zbb _ _ _ _ _ _) hst zbp rfl rfl .u1 fun w hst => ?_)
 refine NL <| zah Tryz.func32 rfl (zal (vs := zbg _ _ _ _ _ _) rfl zbp rfl rfl (zac (n := 4) (hst.objL Q1) _ rfl)) ?_
 replace hst := hst.pick (.cons .u0 .nil)
 exact ⟨bC, rfl, hst.noD⟩
end Go.SK
namespace Go.SK
theorem zij (fm : FormL) : ∀ (l : List ArgP) (k : Nat), (zfW fm k l).length = l.length
  | [], _ => rfl
  | a :: r, k => by rw [zfW, List.length_cons, List.length_cons, zij fm r (k + 1)]
theorem zll {bd : Int} : ∀ (l : List InstL) (n k : Nat), (zcP bd n k l).1 = 0 → ∀ i ∈ l, zbu bd i = 0
  | [], _, _, _, i, hi => by cases hi
  | i :: l, n, k, h, j, hj => by
    unfold zcP at h
    split at h
    · rename_i q; exact absurd h q
    rename_i h1
    split at h
    · cases h
    rcases List.mem_cons.1 hj with rfl | hj
    · exact Nn h1
    · exact zll l _ _ h j hj
theorem zgK {bd : Int} {l : List InstL} (hb : 0 ≤ bd) (h : (zbz bd l).1 = 0) : (1 ≤ bd ∧ bd ≤ 65536) ∧ ∀ i ∈ l, zbu bd i = 0 := by
  unfold zbz at h
  split at h
  · cases h
  · exact ⟨by omega, zll l _ _ h⟩
theorem zma {gn bd : Int} {l : List InstL} (hs : (zbz bd l).1 ≠ 0) : zc9 gn bd l = ([], zbz bd l) := if_pos hs
end Go.SK
namespace Go.SK
theorem zlK (fm : FormL) : ∀ (l : List ArgP) (k i : Nat), i < l.length → zfW fm k (l.take (i + 1)) = zfW fm k (l.take i) ++ [zgx (zaP fm ((k + i : Nat) : Int)) (l.getD i zeroA)]
  | [], _, i, h => by cases h
  | a :: r, k, 0, _ => by simp [zfW]
  | a :: r, k, i + 1, h => by
    rw [List.take_succ_cons, List.take_succ_cons, zfW, zfW, zlK fm r (k + 1) i (by simpa using h), show k + 1 + i = k + (i + 1) by omega]
    simp
def zjK (i : InstL) : List TokL := if (zbq i.op).res = true then [idK i.res, ⟨5, [61], 0⟩] else []
def zl8 (i : InstL) : List TokL := zjK i ++ (⟨1, (zbq i.op).name, 0⟩ :: (if (zbq i.op).ty = true then [idK i.ty] else []))
theorem zld (i : InstL) : zgd i = zl8 i ++ zfW (zbq i.op) 0 i.args := by
  unfold zgd zl8 zjK; simp
theorem ztK : refT.all (fun f => decide (f.name.length ≤ 60)) = true := by decide +kernel
theorem zua : namesL.all (fun x => decide (x.name.length ≤ 60)) = true := by decide +kernel
theorem ztq (op : Int) : (zbq op).name.length ≤ 60 := by
  unfold zbq
  cases h : zbv op with
  | none => exact Nat.zero_le _
  | some f => exact of_decide_eq_true (List.all_eq_true.1 ztK f (zeZ h).1)
theorem zub (c n : Int) : ((namesL.find? (enN c n)).getD zcz).name.length ≤ 60 := by
  cases h : namesL.find? (enN c n) with
  | none => exact Nat.zero_le _
  | some x => exact of_decide_eq_true (List.all_eq_true.1 zua x (List.mem_of_find?_eq_some h))
theorem zfU {n : Int} (h0 : 0 ≤ n) (h1 : n < 4294967296) : (zd7 n).length ≤ 10 := zkt (k := 9) h0 Om
theorem zwA {c : Int} {a : ArgP} (h0 : 0 ≤ a.n) (h1 : a.n < 4294967296) : 4 * (zgx c a).text.length + 3 ≤ 300 + 16 * za1 a := by
  have hd := zfU h0 h1
  have he := zub c a.n
  unfold zgx za1
  split
  · dsimp only; omega
  split
  · dsimp only; omega
  split
  · dsimp only; omega
  · dsimp only; omega
theorem zov {fm : FormL} : ∀ (l : List ArgP) (k : Nat), (∀ a ∈ l, 0 ≤ a.n ∧ a.n < 4294967296) → wsz (zfW fm k l) ≤ 316 * (l.map za1).sum
  | [], _, _ => Nat.zero_le _
  | a :: r, k, h => by
    have h1 := zwA (c := zaP fm (k : Int)) (h a (.head _)).1 (h a (.head _)).2
    have h2 := zov (fm := fm) r (k + 1) (fun b hb => h b (.tail _ hb))
    have h3 : 1 ≤ za1 a := by unfold za1; split <;> omega
    rw [zfW, wsz, List.map_cons, List.sum_cons]; omega
theorem zpa : ∀ (l m : List TokL), wsz (l ++ m) = wsz l + wsz m
  | [], m => by rw [List.nil_append, wsz, Nat.zero_add]
  | t :: r, m => by rw [List.cons_append, wsz, wsz, zpa r m]; omega
theorem zqy {i : InstL} (hu : i.U32) : wsz (zl8 i) ≤ 500 ∧ (zl8 i).length ≤ 4 := by
  have h1 := zfU hu.ty.1 hu.ty.2
  have h2 := zfU hu.res.1 hu.res.2
  have h3 := ztq i.op
  unfold zl8 zjK idK
  constructor
  · rw [zpa]
    have e1 : wsz (if (zbq i.op).res = true then [⟨2, zd7 i.res, 0⟩, ⟨5, [61], 0⟩] else []) ≤ 60 := by
      split
      · simp only [wsz, List.length_cons, List.length_nil]; omega
      · exact Nat.zero_le _
    have e2 : wsz (if (zbq i.op).ty = true then [⟨2, zd7 i.ty, 0⟩] else []) ≤ 60 := by
      split
      · simp only [wsz]; omega
      · exact Nat.zero_le _
    rw [wsz]; dsimp only; omega
  · rw [List.length_append, List.length_cons]
    split <;> split <;> simp
theorem zvw {i : InstL} (hu : i.U32) : wsz (zgd i) ≤ 500 + 316 * (i.args.map za1).sum ∧ (zgd i).length ≤ 4 + i.args.length := by
  have h1 := zqy hu
  have h2 := zov (fm := zbq i.op) i.args 0 hu.args
  rw [zld, zpa, List.length_append, zij]
  omega
theorem zgG {i : InstL} (hu : i.U32) (hs : (i.args.map za1).sum ≤ 900000000) : wsz (zgd i) ≤ 1099511627776 ∧ (zgd i).length ≤ 1099511627776 := by
  have h1 := zvw hu
  have h2 := zeE i.args
  omega
theorem zgF {bd : Int} {i : InstL} (hf : zbu bd i = 0) (hu : i.U32) : wrE (zgd i) = 0 ∧ zcU bd i = (wrS (zgd i), 0) := by
  obtain ⟨o, ho, _, _⟩ := zfu hf hu
  refine ⟨(zdX (zk9 ho)).2, ?_⟩
  unfold zcU; rw [if_neg (by rw [hf]; simp)]
theorem zpC {bd : Int} {l : List InstL} {i : Nat} {y : InstL} (hi : l[i]? = some y) : zc8 bd (l.take (i + 1)) = zc8 bd (l.take i) ++ ((zcU bd y).1 ++ [10]) := by
  unfold zc8
  rw [List.take_add_one, hi, List.flatMap_append]; simp
theorem zpB {bd : Int} (l : List InstL) (i : Nat) : (zc8 bd (l.take i)).length ≤ (zc8 bd l).length := by
  conv => rhs; rw [← List.take_append_drop i l]
  unfold zc8; rw [List.flatMap_append, List.length_append]; omega
def zdZ (gn bd : Int) (l : List InstL) (i : Nat) : Tx := wrS (ziH gn bd) ++ 10 :: zc8 bd (l.take i)
section
variable {gn bd : Int} {l : List InstL}
theorem zey : zdZ gn bd l 0 = wrS (ziH gn bd) ++ [10] := rfl
theorem zlg {i : Nat} {y : InstL} (hi : l[i]? = some y) : zdZ gn bd l (i + 1) = zdZ gn bd l i ++ ((zcU bd y).1 ++ [10]) := by
  unfold zdZ; rw [zpC hi]; simp
theorem zjO (hs : (zbz bd l).1 = 0) : zc9 gn bd l = (zdZ gn bd l l.length, (0, 0)) := by
  unfold zc9 zdZ; rw [if_neg (by rw [hs]; simp), List.take_length]
theorem zti (hs : (zbz bd l).1 = 0) (hg : 0 ≤ gn ∧ gn < 4294967296) (hu : ∀ i ∈ l, i.U32) (hb0 : 0 ≤ bd) (i : Nat) : (zdZ gn bd l i).length ≤ 16777216 := by
  have h := zqC hs hg hu hb0
  rw [zjO hs] at h
  have h2 := zpB (bd := bd) l i
  unfold zdZ at h ⊢
  rw [List.take_length] at h
  simp only [List.length_append, List.length_cons] at h ⊢
  omega
theorem zv4 (hg : 0 ≤ gn ∧ gn < 4294967296) (hb : 0 ≤ bd ∧ bd < 4294967296) : wsz (ziH gn bd) ≤ 1000 := by
  have h1 := zfU hg.1 hg.2
  have h2 := zfU hb.1 hb.2
  unfold ziH
  simp only [wsz, modW, List.length_cons, List.length_nil]; omega
end
end Go.SK
namespace Go.SK
open Go.RowKit Go.ChangeShapes Go.WideShapes Go.ChangeAt
section
variable {P : Program} {ty : TypeId} {ρ : Operand → Value} {w0 w : World} {C : Value → World → Prop} {M : Nat → Prop} {L L' D : List Res}
variable {T U e : TypeId} {de : TypeDesc} {sz bytes sz2 b2 es eb : Nat} {zs ez z2 : List Value} {ao : Option Addr} {n cap : Nat} {xs : List Value}
theorem znk (s : List UInt8) : Lib.strCells ⟨s.toArray⟩ = s.flatMap byC := by
  rw [zg0]; unfold Lib.strCells; simp
theorem zf6 {x y : Operand} {s : List UInt8} (hst : St w0 M L D w) (hT : TyF P T (.slice e) sz bytes zs) (hU : TyF P U .string sz2 b2 z2) (he : ByteF P e)
    (hr : Rem (Res.sl ao n cap e 1 xs) L L') (hx : ρ x = .slice ao n cap) (hy : ρ y = str s) (hb : n + s.length ≤ 140737488355328)
    (h : ∀ (w' : World) (ao' : Option Addr) (cap' : Nat), St w0 M (Res.sl ao' (n + s.length) cap' e 1 (xs ++ s.flatMap byC) :: L') D w' → C (.slice ao' (n + s.length) cap') w') :
    Op1 P (.call ⟨.builtin .append, #[x, y], #[T, U]⟩) ty ρ w C := by
  obtain ⟨i, h1, h4, h2, h3⟩ := he.parts
  have hown : w.ownsRow 0 e 1 (.slice ao n cap) n xs := hst.hL _ hr.mem
  have hs : (⟨s.toArray⟩ : ByteArray).size = s.length := by simp [ByteArray.size]
  have hml := zfr
  have key : ∃ v' w', (Builtin.append_ #[T, U] ty #[.slice ao n cap, str s]).run P w = .ok v' w' ∧ w'.ownsRow 0 e 1 v' (n + s.length) (xs ++ s.flatMap byC) ∧ w.grownBy w' (Value.slice ao n cap).ownBlock ∧
      ∀ k, v'.ownBlock = some k → (Value.slice ao n cap).ownBlock = some k ∨ w.heap.size ≤ k := by
    rw [← znk]
    rcases hown.2 with ⟨hv, h0⟩ | ⟨g, cc, cur, hv, hb0, hg, hnc, hcm, hcs, htake⟩
    · obtain ⟨v', w', r1, r2, r3, _⟩ := Lib.run_append_own_string w w.heap.size T U ty e i hT.und hU.und h1 h4 h2 h3 (.slice ao n cap) n xs ⟨hown.1, .inl ⟨hv, h0⟩⟩ ⟨s.toArray⟩ (by rw [hs]; omega) (by rw [hs]; exact hb) (Nat.le_refl _)
      rw [hs] at r2
      exact ⟨v', w', r1, ⟨r2.1, r2.2.imp id fun ⟨g, cc, cur, e1, _, e2⟩ => ⟨g, cc, cur, e1, Nat.zero_le _, e2⟩⟩, r3, fun k hk => .inr (r2.lt k hk).1⟩
    · cases hv
      have hxl : xs.length = n := by simpa using hown.1
      obtain ⟨v', w', r1, r2, r3, _⟩ := Lib.run_append_own_string w 0 T U ty e i hT.und hU.und h1 h4 h2 h3 _ n xs hown ⟨s.toArray⟩ (by rw [hs]; omega) (by rw [hs]; exact hb) (Nat.zero_le _)
      rw [hs] at r2
      by_cases hroom : n + s.length ≤ cap
      · have r4 := Lib.run_append_room_string (P := P) w T U ty e i hT.und hU.und h1 h2 g n cap cur hg ⟨s.toArray⟩ (by rw [hs]; exact hroom) (by rw [hs, hcs]; omega)
        rw [r1] at r4
        injection r4 with e1 e2
        refine ⟨v', w', r1, r2, r3, fun k hk => .inl ?_⟩
        rw [e1] at hk
        exact hk
      · have r4 := Lib.run_append_grow_string (P := P) w T U ty e i (.int .u8 0) hT.und hU.und h1 h4 ⟨g, 0, none⟩ n cap xs (by rw [h2]; simpa using hxl) (hown.cells (g := g) rfl) ⟨s.toArray⟩ (by rw [hs]; omega) (by rw [hs]; omega) (by rw [h3, hs]; exact growslice_fits (by omega) (by omega))
        rw [r1] at r4
        injection r4 with e1 e2
        refine ⟨v', w', r1, r2, r3, fun k hk => .inr ?_⟩
        rw [e1] at hk
        exact Nat.le_of_eq (Option.some.inj hk)
  obtain ⟨v', w', hrun, hown', hg, hblk⟩ := key
  have hshape : ∃ ao' cap', v' = .slice ao' (n + s.length) cap' := by
    rcases hown'.2 with ⟨hv, h0⟩ | ⟨g, cc, cur, hv, _⟩
    · exact ⟨none, 0, by rw [hv, h0]⟩
    · exact ⟨_, _, hv⟩
  obtain ⟨ao', cap', rfl⟩ := hshape
  refine zdk (args := [x, y]) (v := .slice ao' (n + s.length) cap') (w' := w') (fun cs => ?_) (h w' ao' cap' ?_)
  · simp only [List.map_cons, List.map_nil, hx, hy]
    simp [Go.builtin, hrun]
  · exact (hst.front hr).upd .here ⟨hg.os, hg.tape, hg.output, hg.size, fun k hk hne => hg.block k hk (fun e => hne e.symm)⟩ hown' hblk
theorem znu {b : Nat} {B : TypeId} {vs : List Value} (h : (Res.row b B vs).holds w) : w.shape? b = some (B, vs.length) := by
  have h' : w.heap[b]? = some (.cells vs.toArray B (0, 0)) := h
  simp [World.shape?, h']
theorem zo1 {x : Operand} {S D0 t B : TypeId} {dt : TypeDesc} {b off st bt : Nat} {zt vs : List Value} (hS : TyF P S (.pointer t) sz bytes zs) (hD : TyF P D0 .unsafePointer sz2 b2 z2) (ht : TyF P t dt st bt zt) (hj : Nat.ble 1 st = true) (hx : ρ x = .pointer (some ⟨b, off, none⟩))
    (hb : (Res.row b B vs).holds w) (ho : off < vs.length) (h : C (.pointer (some ⟨b, off, none⟩)) w) : Op1 P (.convert S D0 x) ty ρ w C := by
  obtain ⟨i, z, h1, h2, _⟩ := ht.info
  have hj' := Nat.le_of_ble_eq_true hj
  refine zco (v := .pointer (some ⟨b, off, none⟩)) (w' := w) ?_ h
  simp only [execOp, hx, Sem.run_bind]
  rw [Lib.run_to_unsafe (P := P) (w := w) ⟨b, off, none⟩ hS.und hD.und h1 (by omega) (znu hb) ho]
  simp [Result.andThen]
theorem zk5 {x : Operand} {S D0 u B : TypeId} {du : TypeDesc} {b off su bu : Nat} {zu vs : List Value} (hS : TyF P S .unsafePointer sz bytes zs) (hD : TyF P D0 (.pointer u) sz2 b2 z2) (hu : TyF P u du su bu zu) (hx : ρ x = .pointer (some ⟨b, off, none⟩))
    (hb : (Res.row b B vs).holds w) {m : Nat} (hm : vs.length = m) (hl : liesAt P P.depth B (m / P.cellsOf B) off u 1 = true) (h : C (.pointer (some ⟨b, off, none⟩)) w) : Op1 P (.convert S D0 x) ty ρ w C := by
  subst hm
  obtain ⟨i, z, h1, h2, _⟩ := hu.info
  refine zco (v := .pointer (some ⟨b, off, none⟩)) (w' := w) ?_ h
  simp only [execOp, hx, Sem.run_bind]
  rw [Lib.run_from_unsafe (P := P) (w := w) ⟨b, off, none⟩ hS.und hD.und h1 (znu hb) hl]
  simp [Result.andThen]
theorem zk7 {g : FuncId} {fn : Func} {x : Value} (hf : P.funcs[g]? = some fn) (hname : (fn.name == "runtime.NumGoroutine") = false) (hb : fn.body.isNone = true) (hn : Extern.findNext fn = none) (he : Extern.find fn = some Extern.AbiNoEscape.same) (h : C x w) : CallV P (.func (.func g) #[] #[]) [x] w C := by
  refine Inv.value (v := x) (w' := w) ?_ h
  have := run_callFunc_extern hf hname hb hn he #[x] w
  rw [Lib.run_noEscape] at this
  simpa [Deferred.ofValue, invoke, Sem.run_bind, Result.andThen] using this
theorem zo3 {g : FuncId} {fn : Func} {a1 : Operand} {x : Value} {tys : Array TypeId} (hf : P.funcs[g]? = some fn) (hname : (fn.name == "runtime.NumGoroutine") = false) (hb : fn.body.isNone = true) (hn : Extern.findNext fn = none) (he : Extern.find fn = some Extern.AbiNoEscape.same)
    (hp : ρ (.func g) = .func (.func g) #[] #[]) (h1 : ρ a1 = x) (h : C x w) : Op1 P (.call ⟨.value (.func g), #[a1], tys⟩) ty ρ w C :=
  zfD (args := [a1]) (vs := [x]) hp (by simp [h1]) (zk7 hf hname hb hn he h)
theorem zt8 (hT : TyF P T (.pointer e) sz bytes zs) : (Op.equal T (.pointer none) (.pointer none)).run P w = .ok true w := by
  show (Op.equalIn (9999 + 1) T (.pointer none) (.pointer none)).run P w = _
  rw [Op.equalIn]
  simp [Sem.run_bind, hT.run_und, Result.andThen]
theorem zsT {x y : Operand} {T2 : TypeId} (hT : TyF P T (.pointer e) sz bytes zs) (hx : ρ x = .pointer none) (hy : ρ y = .pointer none) (h : C (.bool true) w) : Op1 P (.binOp .eql T x y T2) ty ρ w C := by
  refine zco (v := .bool true) (w' := w) ?_ h
  simp only [execOp, hx, hy, eqGuard]
  simp [binOp, zt8 hT, Result.andThen]
theorem zwd {b o : Nat} (hT : TyF P T (.pointer e) sz bytes zs) (he : TyF P e de es eb ez) : (Op.equal T (.pointer (some ⟨b, o, none⟩)) (.pointer (some ⟨b, o, none⟩))).run P w = .ok true w := by
  show (Op.equalIn (9999 + 1) T (.pointer (some ⟨b, o, none⟩)) (.pointer (some ⟨b, o, none⟩))).run P w = _
  rw [Op.equalIn]
  simp [Sem.run_bind, hT.run_und, he.run_size, Result.andThen, sameAddr]
theorem zu9 {x y : Operand} {T2 : TypeId} {b o : Nat} (hT : TyF P T (.pointer e) sz bytes zs) (he : TyF P e de es eb ez) (hx : ρ x = .pointer (some ⟨b, o, none⟩)) (hy : ρ y = .pointer (some ⟨b, o, none⟩)) (h : C (.bool false) w) : Op1 P (.binOp .neq T x y T2) ty ρ w C := by
  refine zco (v := .bool false) (w' := w) ?_ h
  simp only [execOp, hx, hy, eqGuard]
  simp [binOp, zwd hT he, Result.andThen]
theorem zk4 {x : Operand} {a : Addr} {c : Nat} {tys : Array TypeId} (hx : ρ x = .slice (some a) n c) (hc : 0 < c) (h : C (.pointer (some a)) w) : Op1 P (.call ⟨.builtin .unsafeSliceData, #[x], tys⟩) ty ρ w C :=
  zdk (args := [x]) (v := .pointer (some a)) (w' := w) (fun cs => by
    have := Lib.run_unsafeSliceData_row (P := P) w tys ty a n c Om
    simp [hx, Go.builtin, this]) h
theorem Kept.freeze (w : World) (g n : Nat) : Kept (· = g) w (w.freeze ⟨g, 0, none⟩ n) := by
  unfold World.freeze
  split
  · exact Kept.refl _ _
  · exact ⟨rfl, rfl, rfl, by simp, fun k hk hne => by
      simp only [Array.getElem?_modify]
      rw [if_neg (fun e => hne e.symm)]⟩
theorem zmZ {x y : Operand} {PT IT : TypeId} {l : List UInt8} {g : Nat} {k : Int} (hst : St w0 M L D w) (hr : Rem (Res.sl (some ⟨g, 0, none⟩) n cap e 1 xs) L L') (hn : n = l.length) (hxs : xs = l.flatMap byC) (hP : TyF P PT (.pointer e) sz bytes zs) (hc : P.cellsOf e = 1) (h0 : l ≠ [])
    (hx : ρ x = .pointer (some ⟨g, 0, none⟩)) (hy : ρ y = .int .i64 k) (hk : k = l.length) (h : ∀ w' : World, St w0 M (Res.emp :: L') D w' → C (str l) w') : Op1 P (.call ⟨.builtin .unsafeString, #[x, y], #[PT, IT]⟩) ty ρ w C := by
  subst hn hxs hk
  have hown : w.ownsRow 0 e 1 (.slice (some ⟨g, 0, none⟩) l.length cap) l.length (l.flatMap byC) := hst.hL _ hr.mem
  have hml := zfr
  rcases hown.2 with ⟨hv, _⟩ | ⟨g', cc, cur, hv, hb0, hg, hnc, hcm, hcs, htake⟩
  · cases hv
  cases hv
  have hrun := Lib.run_unsafeString_row (P := P) w PT IT ty e hP.und hc g cur.size (by simp [World.shape?, hg]) l h0 (by omega) (by omega) (fun j x hx => hown.cells (g := g) rfl j (.int .u8 x.toNat) (by rw [zg0, List.getElem?_map, hx]; rfl))
  refine zdk (args := [x, y]) (v := str l) (w' := w.freeze ⟨g, 0, none⟩ l.length) (fun cs => ?_) (h _ ?_)
  · simp only [List.map_cons, List.map_nil, hx, hy]
    simp [Go.builtin, hrun]; rfl
  · refine (hst.front hr).upd .here ((Kept.freeze w g l.length).mono fun c _ hc => ?_) trivial (fun c hc => absurd hc id)
    subst hc; rfl
end
end Go.SK
namespace Go.SK
open Go.RowKit
section
variable {c : Int} {a : ArgP}
theorem argK1 (h : a.kind = 1) : zgx c a = ⟨2, zd7 a.n, 0⟩ := if_pos h
theorem argK2 (h1 : ¬ a.kind = 1) (h : a.kind = 2) : zgx c a = ⟨3, zd7 a.n, 0⟩ := by unfold zgx; rw [if_neg h1, if_pos h]
theorem argK3 (h1 : ¬ a.kind = 1) (h2 : ¬ a.kind = 2) (h : a.kind = 3) : zgx c a = ⟨4, a.s, 0⟩ := by unfold zgx; rw [if_neg h1, if_neg h2, if_pos h]
theorem argK4 (h1 : ¬ a.kind = 1) (h2 : ¬ a.kind = 2) (h : ¬ a.kind = 3) : zgx c a = ⟨1, ((namesL.find? (enN c a.n)).getD zcz).name, 0⟩ := by unfold zgx; rw [if_neg h1, if_neg h2, if_neg h]
end
section
variable {i : InstL} {fm : FormL}
theorem zl6 (h : zbq i.op = fm) (hr : fm.res = true) : zjK i = [idK i.res, ⟨5, [61], 0⟩] := by unfold zjK; rw [h, if_pos hr]
theorem zpg (h : zbq i.op = fm) (hr : fm.res = false) : zjK i = [] := by unfold zjK; rw [h, if_neg (by rw [hr]; decide)]
theorem zl7 (h : zbq i.op = fm) (ht : fm.ty = true) : zl8 i = (zjK i ++ [⟨1, fm.name, 0⟩]) ++ [idK i.ty] := by unfold zl8; rw [h, if_pos ht]; simp
theorem zph (h : zbq i.op = fm) (ht : fm.ty = false) : zl8 i = zjK i ++ [⟨1, fm.name, 0⟩] := by unfold zl8; rw [h, if_neg (by rw [ht]; decide)]
def zm2 (i : InstL) (fm : FormL) (k : Nat) : List TokL := zl8 i ++ zfW fm 0 (i.args.take k)
theorem zdl : zm2 i fm 0 = zl8 i := by unfold zm2; simp [zfW]
theorem zjL {k : Nat} (h : k < i.args.length) : zm2 i fm (k + 1) = zm2 i fm k ++ [zgx (zaP fm (k : Int)) (i.args.getD k zeroA)] := by
  unfold zm2
  rw [zlK fm i.args 0 k h, Nat.zero_add, List.append_assoc]
theorem zqB (h : zbq i.op = fm) {k : Nat} (hk : k = i.args.length) : zm2 i fm k = zgd i := by
  subst hk; subst h
  unfold zm2
  rw [zld, List.take_length]
end
theorem ztP {l : List InstP} {i : Nat} (h : i < l.length) : (l.map InstP.L)[i]? = some (l.getD i zeroI).L := by
  rw [List.getElem?_map, List.getElem?_eq_getElem h]; simp [List.getD, h]
end Go.SK
namespace Go.SK
open Go.RowKit
theorem zqA {i : InstL} {fm : FormL} {k : Nat} (hu : i.U32) : (zm2 i fm k).length ≤ 4 + i.args.length := by
  have h1 := (zqy hu).2
  unfold zm2
  rw [List.length_append, zij, List.length_take]
  omega
theorem row_rs {b T n es : Nat} {xs : List Value} {w : World} (h : (Res.row b T xs).holds w) (hn : xs.length = n * es) : (Res.rs (some ⟨b, 0, none⟩) n es xs).holds w :=
  ⟨hn, .inr ⟨b, 0, rfl, zac (n := xs.length) h _ (by rw [List.drop_zero, List.take_length])⟩⟩
theorem zvz {gn bd : Int} {l : List InstL} {i : Nat} : zdZ gn bd l i ≠ [] := by unfold zdZ; simp
theorem zrI {gn bd : Int} {l : List InstP} {i : Nat} (hi : i < l.length) (hs : (zbz bd (l.map InstP.L)).1 = 0) (hb0 : 0 ≤ bd) (hu : ∀ x ∈ l, x.L.U32) : zdZ gn bd (l.map InstP.L) i ++ wrS (zgd (l.getD i zeroI).L) ++ [10] = zdZ gn bd (l.map InstP.L) (i + 1) ∧ wrE (zgd (l.getD i zeroI).L) = 0 ∧ zcU bd (l.getD i zeroI).L = (wrS (zgd (l.getD i zeroI).L), 0) := by
  have hm : l.getD i zeroI ∈ l := zb8 hi
  have hf := (zgK hb0 hs).2 _ (List.mem_map_of_mem hm)
  have h2 := zgF hf (hu _ hm)
  refine ⟨?_, h2⟩
  rw [zlg (ztP hi), h2.2, List.append_assoc]
theorem zlh {gn bd : Int} {l : List InstP} (hs : (zbz bd (l.map InstP.L)).1 = 0) (hg : 0 ≤ gn ∧ gn < 4294967296) (hb0 : 0 ≤ bd) (hu : ∀ x ∈ l, x.L.U32) (i : Nat) : (zdZ gn bd (l.map InstP.L) i).length ≤ 16777216 :=
  zti hs hg (fun y hy => by obtain ⟨x, hx, rfl⟩ := List.mem_map.1 hy; exact hu x hx) hb0 i
end Go.SK
namespace Go.SK
open Go.RowKit
theorem ziS {m : List InstP} {l : List InstL} (h : m.map InstP.L = l) (hu : ∀ y ∈ l, y.U32) : ∀ x ∈ m, x.L.U32 := fun x hx => hu _ (h ▸ List.mem_map_of_mem hx)
end Go.SK
namespace Go.SK
open Go Go.Proofs
theorem zmv : FldF Tryz.prog 90 0 0 := FldF.of (n := 0) Kr
theorem zvq : TyF Tryz.prog 88 (.pointer 90) 1 8 [.pointer none] := zbK Kr Kr
theorem ty255 : TyF Tryz.prog 255 .unsafePointer 1 8 [.pointer none] := zbK Kr Kr
theorem ty90 : TyF Tryz.prog 90 (.struct (zbJ Tryz.prog 90)) 2 32 [.pointer none, .slice none 0 0] := zbK Kr Kr
theorem zxg : zaN Tryz.prog 150 := ⟨Tryz.f150, _, Tryz.func150, Kr, rfl⟩
theorem ziI : FldF Tryz.prog 90 1 1 := FldF.of (n := 0) Kr
theorem ty169 : TyF Tryz.prog 169 (.pointer 5) 1 8 [.pointer none] := zbK Kr Kr
end Go.SK
namespace Go.SK
open Go Go.Proofs
open Go.RowKit
theorem zuA : ByteF Tryz.prog 5 := by unfold ByteF; kernel_rfl
theorem zp4 (b : Nat) (x : Value) (w : World) (hB : (Res.row b 92 [.pointer none, x]).holds w) : Ret Tryz.prog 150 #[.pointer (some ⟨b, 0, none⟩)] w (fun v w' => v = .tuple #[] ∧ St w (Res.row b 92 [.pointer none, x]).foot [Res.row b 92 [.pointer (some ⟨b, 0, none⟩), x]] [] w') := by
 refine zav (args := [.pointer (some ⟨b, 0, none⟩)]) Tryz.func150 rfl rfl rfl ?_
 have hst : St w (Res.row b 92 [.pointer none, x]).foot [Res.row b 92 [.pointer none, x]] [] w := St.enter1 hB (fun d hd => by cases hd) (fun d hd => by cases hd)
 refine SR <| MP rfl <| CN <| zaK rfl <| CN <| zaa zmv rfl <| CN <| zae (v := .pointer none) zvq rfl rfl (hst.cellL Q0 rfl) <| CN <| zsT zvq rfl rfl <| NL <| zax (Vb (rfl : true = _)) <| RG <| MP rfl <| MP rfl <| CN <| zo1 (B := 92) zvq ty255 ty90 (by decide) rfl (hst.hL _ Q0) (by simp) <| CN <| zo3 (fn := Tryz.f194) Tryz.func194 (by kernel_rfl) rfl (by kernel_rfl) (by kernel_rfl) rfl rfl <| CN (zk5 (B := 92) (m := 2) ty255 zvq ty90 rfl (hst.hL _ Q0) rfl (by kernel_rfl) ?_)
 refine CN <| zaK rfl <| CN <| zaa zmv rfl <| CN (SO (v := Pp _ _) hst zvq rfl rfl .u0 fun w hst => ?_)
 refine NL <| zef Tryz.func150 rfl  ?_
 replace hst := hst.pick (.cons .u0 .nil)
 exact ⟨rfl, hst⟩
theorem zp3 (b : Nat) (x : Value) (w : World) (hB : (Res.row b 92 [.pointer (some ⟨b, 0, none⟩), x]).holds w) : Ret Tryz.prog 150 #[.pointer (some ⟨b, 0, none⟩)] w (fun v w' => v = .tuple #[] ∧ St w (Res.row b 92 [.pointer (some ⟨b, 0, none⟩), x]).foot [Res.row b 92 [.pointer (some ⟨b, 0, none⟩), x]] [] w') := by
 refine zav (args := [.pointer (some ⟨b, 0, none⟩)]) Tryz.func150 rfl rfl rfl ?_
 have hst : St w (Res.row b 92 [.pointer (some ⟨b, 0, none⟩), x]).foot [Res.row b 92 [.pointer (some ⟨b, 0, none⟩), x]] [] w := St.enter1 hB (fun d hd => by cases hd) (fun d hd => by cases hd)
 refine SR <| MP rfl <| CN <| zaK rfl <| CN <| zaa zmv rfl <| CN <| zae (v := Pp _ _) zvq rfl rfl (hst.cellL Q0 rfl) <| CN <| zvc zvq rfl rfl <| NL <| zat (Vb (rfl : false = _)) <| SR <| MP rfl <| CN <| zaK rfl <| CN <| zaa zmv rfl <| CN (zae (v := Pp _ _) zvq rfl rfl (hst.cellL Q0 rfl) ?_)
 refine MP rfl <| CN <| zu9 zvq ty90 rfl rfl <| NL <| zat (Vb (rfl : false = _)) <| zaf <| zef Tryz.func150 rfl  ?_
 replace hst := hst.pick (.cons .u0 .nil)
 exact ⟨rfl, hst⟩
theorem zlQ (b : Nat) (x p : Value) (w : World) (hB : (Res.row b 92 [p, x]).holds w) (hp0 : p = .pointer none ∨ p = .pointer (some ⟨b, 0, none⟩)) : Ret Tryz.prog 150 #[.pointer (some ⟨b, 0, none⟩)] w (fun v w' => v = .tuple #[] ∧ St w (Res.row b 92 [p, x]).foot [Res.row b 92 [.pointer (some ⟨b, 0, none⟩), x]] [] w') := by
 rcases hp0 with rfl | rfl
 ·exact zp4 b x w hB
 ·exact zp3 b x w hB
theorem zja (b : Nat) (p : Value) (ao : Option Addr) (cp : Nat) (l : Tx) (s : Tx) (w : World) (hR : (BdR 92 5 b p ao cp l).holds w) (hp0 : p = .pointer none ∨ p = .pointer (some ⟨b, 0, none⟩)) (hl : l.length + s.length ≤ 140737488355328) : Ret Tryz.prog 95 #[.pointer (some ⟨b, 0, none⟩), str s] w (fun v w' => ∃ ao' cp', v = .tuple #[.int .i64 (s.length : Int), .nilIface] ∧ St w (BdR 92 5 b p ao cp l).foot [BdR 92 5 b (.pointer (some ⟨b, 0, none⟩)) ao' cp' (l ++ s)] [] w') := by
 refine zav (args := [.pointer (some ⟨b, 0, none⟩), str s]) Tryz.func95 rfl rfl rfl ?_
 have hst : St w (BdR 92 5 b p ao cp l).foot [BdR 92 5 b p ao cp l] [] w := St.enter1 hR (fun d hd => by cases hd) (fun d hd => by cases hd)
 replace hst : St _ _ [_, _] _ _ := hst.unpack
 refine SR <| AI rfl <| CN <| Op1.assign (v := .nilIface) rfl <| NSR <| MP rfl <| CN (Op1.call1 (v1 := Pp _ _) zxg rfl rfl ((zlQ b _ p _ (hst.hL _ Q0) hp0).mono fun v w hp => ?_))
 obtain ⟨rfl, hp⟩ := hp
 replace hst : St _ _ (_ :: _) _ _ := hst.call1 hp
 clear hp
 refine NSR <| MP rfl <| MP rfl <| CN <| zaK rfl <| CN <| zaa ziI rfl <| CN <| zae (v := .slice _ _ _) zcr rfl rfl (hst.cellL Q0 rfl) <| MS rfl <| CN <| zf6 hst zcr ty9 zuA .u1 rfl rfl Om fun w aoN cpN hst => CN <| zaK rfl <| CN <| zaa ziI rfl <| CN (SO (v := .slice _ _ _) hst zcr rfl rfl .u1 fun w hst => ?_)
 refine NSR <| MS rfl <| CN <| zaL (rest := []) ty9 rfl <| AI rfl <| CN <| Op1.assign (v := .nilIface) rfl <| NL <| zai Tryz.func95 rfl (TP (v := .int .i64 _) rfl) (TP (v := .nilIface) rfl) ?_
 replace hst := hst.pick (.cons .u1 (.cons .u0 .nil))
 exact ⟨_, _, rfl, BdR.app hst⟩
theorem zk1 (b : Nat) (p : Value) (ao : Option Addr) (cp : Nat) (l : Tx) (w : World) (hR : (BdR 92 5 b p ao cp l).holds w) (hp0 : p = .pointer none ∨ p = .pointer (some ⟨b, 0, none⟩)) (hl : l.length + 1 ≤ 140737488355328) : Ret Tryz.prog 96 #[.pointer (some ⟨b, 0, none⟩), .int .u8 10] w (fun v w' => ∃ ao' cp', v = .nilIface ∧ St w (BdR 92 5 b p ao cp l).foot [BdR 92 5 b (.pointer (some ⟨b, 0, none⟩)) ao' cp' (l ++ [10])] [] w') := by
 refine zav (args := [.pointer (some ⟨b, 0, none⟩), .int .u8 10]) Tryz.func96 rfl rfl rfl ?_
 have hst : St w (BdR 92 5 b p ao cp l).foot [BdR 92 5 b p ao cp l] [] w := St.enter1 hR (fun d hd => by cases hd) (fun d hd => by cases hd)
 replace hst : St _ _ [_, _] _ _ := hst.unpack
 refine SR <| CN <| Op1.assign (v := .nilIface) rfl <| NSR <| MP rfl <| CN (Op1.call1 (v1 := Pp _ _) zxg rfl rfl ((zlQ b _ p _ (hst.hL _ Q0) hp0).mono fun v w hp => ?_))
 obtain ⟨rfl, hp⟩ := hp
 replace hst : St _ _ (_ :: _) _ _ := hst.call1 hp
 clear hp
 refine NSR <| MP rfl <| MP rfl <| CN <| zaK rfl <| CN <| zaa ziI rfl <| CN <| zae (v := .slice _ _ _) zcr rfl rfl (hst.cellL Q0 rfl) <| MC rfl <| CN (zaE (z0 := [.int .u8 0]) hst zcr ty5 rfl rfl Kr (.c (v := .int .u8 _) rfl (h := .nil)) fun w b13 hst => ?_)
 refine CN (zaI (news := [.int .u8 10]) hst zcr ty5 rfl rfl .u2 rfl rfl rfl (zac (n := 1) (hst.objL Q0) _ rfl) rfl rfl Om fun w ao1 cp2 hst => ?_)
 replace hst := hst.drop .u1
 refine CN <| zaK rfl <| CN <| zaa ziI rfl <| CN (SO (v := .slice _ _ _) hst zcr rfl rfl .u1 fun w hst => ?_)
 refine NSR <| CN <| Op1.assign (v := .nilIface) rfl <| NL <| zah Tryz.func96 rfl (TP (v := .nilIface) rfl) ?_
 replace hst := hst.pick (.cons .u1 (.cons .u0 .nil))
 exact ⟨_, _, rfl, BdR.app hst⟩
theorem zp5 (b : Nat) (p : Value) (ao : Option Addr) (cp : Nat) (l : Tx) (w : World) (hR : (BdR 92 5 b p ao cp l).holds w) (hl0 : l ≠ []) : Ret Tryz.prog 51 #[.pointer (some ⟨b, 0, none⟩)] w (fun v w' => v = str l ∧ St w (BdR 92 5 b p ao cp l).foot [] [] w') := by
 refine zav (args := [.pointer (some ⟨b, 0, none⟩)]) Tryz.func51 rfl rfl rfl ?_
 have hst : St w (BdR 92 5 b p ao cp l).foot [BdR 92 5 b p ao cp l] [] w := St.enter1 hR (fun d hd => by cases hd) (fun d hd => by cases hd)
 replace hst : St _ _ [_, _] _ _ := hst.unpack
 have hlp : 0 < l.length := List.length_pos_iff.2 hl0
 have hcap : l.length ≤ cp := Res.sl_cap (hst.hL _ Q1)
 obtain ⟨gB, rfl⟩ := Res.sl_some (hst.hL _ Q1) hlp
 refine SR <| AS rfl <| NL <| SQ <| RunD.start [] hst (bs := [0, 1, 3, 7, 15, 0, 32, 96, 224, 480, 1023, 2047]) (ds := [some 3, some 4, some 5, some 6, some 7, some 8, some 9, some 10, some 11, some 12, some 13, some 2]) ⟨Kr, Kr, Kr⟩ (fun tab1 => ?_)
 refine DO tab1 1 (fun f' L' w' hc=> zad (v := Pp _ _) (hc.old rfl rfl rfl) hc.z) <| DO tab1 2 (fun f' L' w' hc=> zaK (hc.d 0 rfl rfl rfl rfl) hc.z) <| DO tab1 3 (fun f' L' w' hc=> zaa ziI (hc.d 1 rfl rfl rfl rfl) hc.z) <| DO tab1 4 (fun f' L' w' hc=> zae (v := .slice (some ⟨gB, 0, none⟩) l.length cp) zcr rfl (hc.d 2 rfl rfl rfl rfl) (hc.st.cellL (List.mem_append_right _ Q0) rfl) hc.z) <| DO tab1 5 (fun f' L' w' hc=> zk4 (a := ⟨gB, 0, none⟩) (n := l.length) (c := cp) (hc.d 3 rfl rfl rfl rfl) Om hc.z) <| DO tab1 6 (fun f' L' w' hc=> zad (v := Pp _ _) (hc.old rfl rfl rfl) hc.z) <| DO tab1 7 (fun f' L' w' hc=> zaK (hc.d 5 rfl rfl rfl rfl) hc.z) <| DO tab1 8 (fun f' L' w' hc=> zaa ziI (hc.d 6 rfl rfl rfl rfl) hc.z) <| DO tab1 9 (fun f' L' w' hc=> zae (v := .slice (some ⟨gB, 0, none⟩) l.length cp) zcr rfl (hc.d 7 rfl rfl rfl rfl) (hc.st.cellL (List.mem_append_right _ Q0) rfl) hc.z) <| DO tab1 10 (fun _ _ _ hc => zaQ (rest := []) zcr (hc.d 8 rfl rfl rfl rfl) hc.z) <| RunD.fin zaw tab1 hst rfl (fun f2 w R5 hs3 hd4 hr6 hst => ?_)
 obtain ⟨h3_, r0⟩ := hd4 0 3 rfl rfl
 obtain ⟨h4_, r1⟩ := hd4 1 4 rfl rfl
 obtain ⟨h5_, r2⟩ := hd4 2 5 rfl rfl
 obtain ⟨h6_, r3⟩ := hd4 3 6 rfl rfl
 obtain ⟨h7_, r4⟩ := hd4 4 7 rfl rfl
 obtain ⟨h8_, r5⟩ := hd4 5 8 rfl rfl
 obtain ⟨h9_, r6⟩ := hd4 6 9 rfl rfl
 obtain ⟨h10_, r7⟩ := hd4 7 10 rfl rfl
 obtain ⟨h11_, r8⟩ := hd4 8 11 rfl rfl
 obtain ⟨h12_, r9⟩ := hd4 9 12 rfl rfl
 simp only [zyh, Fc, Fn, Mc, Mn, r0, r1, r2, r3, r4, r5, r6, r7, r8, r9, Na, An, Ca] at hst
 refine zaD (sl := [(7, Pp _ _), (12, .int .i64 _)]) ⟨h7_, h12_, trivial⟩ ?_
 clear hs3 hd4 hr6 tab1
 refine CN <| zmZ (l := l) hst .u1 rfl rfl ty169 Kr hl0 rfl rfl rfl fun w hst => AS rfl <| NL <| zah Tryz.func51 rfl (TP (v := str _) rfl) ?_
 replace hst := hst.pick .nil
 exact ⟨rfl, hst⟩
end Go.SK
namespace Go.SK
open Go Go.Proofs
theorem zxW : zaN Tryz.prog 99 := ⟨Tryz.f99, _, Tryz.func99, Kr, rfl⟩
theorem zxY : zaN Tryz.prog 49 := ⟨Tryz.f49, _, Tryz.func49, Kr, rfl⟩
theorem zxZ : zaN Tryz.prog 48 := ⟨Tryz.f48, _, Tryz.func48, Kr, rfl⟩
end Go.SK
namespace Go.SK
open Go Go.Proofs
open Go.RowKit
theorem zkA (s : Tx) (w : World) : Ret Tryz.prog 48 #[str s] w (fun v w' => v = .agg #[.int .u8 1, str s, .int .i64 0] ∧ St w NoM [] [] w') := by
 refine zav (args := [str s]) Tryz.func48 rfl rfl rfl ?_
 have hst := St.init w
 refine SR <| CN <| Op1.alloc hst zbd fun w b2 hst => NSR <| MS rfl <| CN (zag zbd zda (.c (v := .int .u8 _) rfl (h := (.c (v := str _) rfl (h := .nil)))) ?_)
 refine CN (SO (v := zbO _ _ _) hst zbd rfl rfl .u0 fun w hst => ?_)
 refine NL <| zah Tryz.func48 rfl (zal (vs := zeS _ _ _) rfl zbd rfl rfl (zac (n := 3) (hst.objL Q0) _ rfl)) ?_
 exact ⟨rfl, hst.pure⟩
theorem zwG (u : Nat) (hu : u < 4294967296) (w : World) (hG : LxG.holds w) : Ret Tryz.prog 99 #[.int .u32 (u : Int)] w (fun v w' => v = .agg #[.int .u8 2, str (Lib.decDigits u), .int .i64 0] ∧ St w NoM [] [] w') := by
 refine zav (args := [.int .u32 (u : Int)]) Tryz.func99 rfl rfl rfl ?_
 have hst : St w NoM [] [LxG] w := St.init_Ds (by simp only [List.forall_mem_cons]; exact ⟨hG, fun _ h => absurd h List.not_mem_nil⟩)
 refine SR <| CN <| Op1.alloc hst zbd fun w b2 hst => NSR <| MU rfl ?_
 first | refine CN (zaY zbt zbF rfl zdV ?_) | refine CN (za8 zbt zbF rfl ?_)
 refine CN <| zaz (v1 := .int .u64 _) (v2 := .int .i64 _) zwh rfl rfl rfl <| Ret.det (zmX u hu _ (hst.hD _ Q0)) hst fun w hst => CN (zag zbd zda (.c (v := .int .u8 _) rfl (h := (.c (v := str _) rfl (h := .nil)))) ?_)
 refine CN (SO (v := zbO _ _ _) hst zbd rfl rfl .u0 fun w hst => ?_)
 refine NL <| zah Tryz.func99 rfl (zal (vs := zeS _ _ _) rfl zbd rfl rfl (zac (n := 3) (hst.objL Q0) _ rfl)) ?_
 exact ⟨rfl, hst.pure⟩
theorem zp2 (n : Int) (h0 : 0 ≤ n) (h1 : n < 4294967296) (w : World) (hG : LxG.holds w) : Ret Tryz.prog 99 #[.int .u32 n] w (fun v w' => v = .agg #[.int .u8 2, str (zd7 n), .int .i64 0] ∧ St w NoM [] [] w') := by
 obtain ⟨u, rfl⟩ := Int.eq_ofNat_of_zero_le h0
 exact zwG u Om w hG
theorem zoK (u : Nat) (hu : u < 4294967296) (w : World) (hG : LxG.holds w) : Ret Tryz.prog 49 #[.int .u32 (u : Int)] w (fun v w' => v = .agg #[.int .u8 3, str (Lib.decDigits u), .int .i64 0] ∧ St w NoM [] [] w') := by
 refine zav (args := [.int .u32 (u : Int)]) Tryz.func49 rfl rfl rfl ?_
 have hst : St w NoM [] [LxG] w := St.init_Ds (by simp only [List.forall_mem_cons]; exact ⟨hG, fun _ h => absurd h List.not_mem_nil⟩)
 refine SR <| CN <| Op1.alloc hst zbd fun w b2 hst => NSR <| MU rfl ?_
 first | refine CN (zaY zbt zbF rfl zdV ?_) | refine CN (za8 zbt zbF rfl ?_)
 refine CN <| zaz (v1 := .int .u64 _) (v2 := .int .i64 _) zwh rfl rfl rfl <| Ret.det (zmX u hu _ (hst.hD _ Q0)) hst fun w hst => CN (zag zbd zda (.c (v := .int .u8 _) rfl (h := (.c (v := str _) rfl (h := .nil)))) ?_)
 refine CN (SO (v := zbO _ _ _) hst zbd rfl rfl .u0 fun w hst => ?_)
 refine NL <| zah Tryz.func49 rfl (zal (vs := zeS _ _ _) rfl zbd rfl rfl (zac (n := 3) (hst.objL Q0) _ rfl)) ?_
 exact ⟨rfl, hst.pure⟩
theorem zhx (n : Int) (h0 : 0 ≤ n) (h1 : n < 4294967296) (w : World) (hG : LxG.holds w) : Ret Tryz.prog 49 #[.int .u32 n] w (fun v w' => v = .agg #[.int .u8 3, str (zd7 n), .int .i64 0] ∧ St w NoM [] [] w') := by
 obtain ⟨u, rfl⟩ := Int.eq_ofNat_of_zero_le h0
 exact zoK u Om w hG
theorem zwH (op : Int) (k : Nat) (a : ArgP) (w : World) (hG : LxG.holds w) (h0 : 0 ≤ a.n) (h1 : a.n < 4294967296) (hop : 0 ≤ op) (hk : k ≤ 9000000000000000000) : Ret Tryz.prog 100 #[.int .u16 op, .int .i64 (k : Int), .agg #[.int .u8 a.kind, .int .u32 a.n, str a.s]] w (fun v w' => v = .agg #[.int .u8 (zgx (zaP (zbq op) (k : Int)) a).kind, str (zgx (zaP (zbq op) (k : Int)) a).text, .int .i64 (zgx (zaP (zbq op) (k : Int)) a).at_] ∧ St w NoM [] [] w') := by
 refine zav (args := [.int .u16 op, .int .i64 (k : Int), .agg #[.int .u8 a.kind, .int .u32 a.n, str a.s]]) Tryz.func100 rfl rfl rfl ?_
 have hst : St w NoM [] [LxG] w := St.init_Ds (by simp only [List.forall_mem_cons]; exact ⟨hG, fun _ h => absurd h List.not_mem_nil⟩)
 refine SR <| CN <| zbi (v := zcy _ _ _) hst rfl rfl fun w b5 hst => CN <| Op1.alloc hst zbd fun w b6 hst => NL <| SQ <| SR <| CN <| zaa zbA rfl <| CN <| zae (v := .int .u8 _) ty5 rfl rfl (hst.cellL Q1 rfl) <| NL <| zao <| SR <| CN (zak rfl rfl ?_)
 refine AB rfl <| NL <| zab rfl (fun g1 => ?_) (fun g1 => ?_)
 ·refine SR <| CN <| zaa zbM rfl <| CN <| zae (v := .int .u32 _) zbt rfl rfl (hst.cellL Q1 rfl) <| CN <| Op1.call1 (v1 := .int .u32 _) zxW rfl rfl <| Ret.det (zp2 a.n h0 h1 _ (hst.hD _ Q0)) hst fun w hst => CN (SO (v := zbO _ _ _) hst zbd rfl rfl .u0 fun w hst => ?_)
  refine NL <| zah Tryz.func100 rfl (zal (vs := zeS _ _ _) rfl zbd rfl rfl (zac (n := 3) (hst.objL Q0) _ rfl)) ?_
  rw [argK1 g1]
  exact ⟨rfl, hst.pure⟩
 refine SR <| CN <| zak rfl rfl <| AB rfl <| NL <| zab rfl (fun g2 => ?_) (fun g2 => ?_)
 ·refine SR <| CN <| zaa zbM rfl <| CN <| zae (v := .int .u32 _) zbt rfl rfl (hst.cellL Q1 rfl) <| CN <| Op1.call1 (v1 := .int .u32 _) zxY rfl rfl <| Ret.det (zhx a.n h0 h1 _ (hst.hD _ Q0)) hst fun w hst => CN (SO (v := zbO _ _ _) hst zbd rfl rfl .u0 fun w hst => ?_)
  refine NL <| zah Tryz.func100 rfl (zal (vs := zeS _ _ _) rfl zbd rfl rfl (zac (n := 3) (hst.objL Q0) _ rfl)) ?_
  rw [argK2 g1 g2]
  exact ⟨rfl, hst.pure⟩
 refine SR <| CN <| zak rfl rfl <| AB rfl <| NL <| zab rfl (fun g3 => ?_) (fun g3 => ?_)
 ·refine SR <| CN <| zaa zbh rfl <| CN <| zae (v := str _) ty9 rfl rfl (hst.cellL Q1 rfl) <| CN (zag zbd zda (.c (v := .int .u8 _) rfl (h := (.c (v := str _) rfl (h := .nil)))) ?_)
  refine CN (SO (v := zbO _ _ _) hst zbd rfl rfl .u0 fun w hst => ?_)
  refine NL <| zah Tryz.func100 rfl (zal (vs := zeS _ _ _) rfl zbd rfl rfl (zac (n := 3) (hst.objL Q0) _ rfl)) ?_
  rw [argK3 g1 g2 g3]
  exact ⟨rfl, hst.pure⟩
 refine zaf <| zam <| SQ <| RunD.start [] hst (bs := [0, 0, 3, 0, 8, 31, 63, 127, 127, 255, 1023]) (ds := [some 27, some 28, some 29, some 30, some 31, some 32, some 26, some 33, some 34, some 7, some 8]) ⟨Kr, Kr, Kr⟩ (fun tab4 => ?_)
 refine DO tab4 1 (fun f' L' w' hc=> zad (v := .int .u16 _) (hc.old rfl rfl rfl) hc.z) <| DO tab4 2 (fun f' L' w' hc=> zad (v := .int .i64 _) (hc.old rfl rfl rfl) hc.z) <| DO tab4 3 (fun f' L' w' hc=> zaz (v1 := .int .u16 _) (v2 := .int .i64 _) zun rfl (hc.d 0 rfl rfl rfl rfl) (hc.d 1 rfl rfl rfl rfl) ((zhz op hop (k : Int) Om _).mono fun v w hp => ⟨[], ⟨hp.1, rfl⟩, hc.st.keepc hp.2⟩)) <| DO tab4 4 (fun f' L' w' hc=> zaa zbM (hc.old (v := Pp _ _) rfl rfl rfl) hc.z) <| DO tab4 5 (fun f' L' w' hc=> zae (v := .int .u32 _) zbt rfl (hc.d 3 rfl rfl rfl rfl) (hc.st.cellL (List.mem_append_right _ Q1) rfl) hc.z) <| DO tab4 6 (fun f' L' w' hc=> zaz (v1 := .int .u8 _) (v2 := .int .u32 _) zxf rfl (hc.d 2 rfl rfl rfl rfl) (hc.d 4 rfl rfl rfl rfl) ((zlT (o := namesL.find? (enN (zaP (zbq op) (k : Int)) a.n)) rfl (zcp _ _).1 (zcp _ _).2 _).mono fun v w hp => ⟨[], ⟨hp.1, rfl⟩, hc.st.keepc hp.2⟩)) <| DO tab4 7 (fun f' L' w' hc=> zad (v := .tuple #[str _, .bool _]) (hc.d 5 rfl rfl rfl rfl) hc.z) <| DO tab4 8 (fun f' L' w' hc=> Op1.extract (v := str _) (hc.d 6 rfl rfl rfl rfl) rfl hc.z) <| DO tab4 9 (fun f' L' w' hc=> Op1.extract (v := .bool _) (hc.d 6 rfl rfl rfl rfl) rfl hc.z) <| DO tab4 10 (fun _ _ _ hc => Op1.assign (v := str _) (hc.d 7 rfl rfl rfl rfl) hc.z) <| RunD.fin zaw tab4 hst rfl (fun f5 w R8 hs6 hd7 hr9 hst => ?_)
 obtain ⟨h27_, r0⟩ := hd7 0 27 rfl rfl
 obtain ⟨h28_, r1⟩ := hd7 1 28 rfl rfl
 obtain ⟨h29_, r2⟩ := hd7 2 29 rfl rfl
 obtain ⟨h30_, r3⟩ := hd7 3 30 rfl rfl
 obtain ⟨h31_, r4⟩ := hd7 4 31 rfl rfl
 obtain ⟨h32_, r5⟩ := hd7 5 32 rfl rfl
 obtain ⟨h26_, r6⟩ := hd7 6 26 rfl rfl
 obtain ⟨h33_, r7⟩ := hd7 7 33 rfl rfl
 obtain ⟨h34_, r8⟩ := hd7 8 34 rfl rfl
 obtain ⟨h7_, r9⟩ := hd7 9 7 rfl rfl
 simp only [zyh, Fc, Fn, Mc, Mn, r0, r1, r2, r3, r4, r5, r6, r7, r8, r9, Na, An, Ca] at hst
 refine zaD (sl := [(6, Pp _ _), (7, str _), (34, .bool _)]) ⟨(hs6 6 rfl).trans rfl, h7_, h34_, trivial⟩ ?_
 clear hs6 hd7 hr9 tab4
 refine AB rfl <| NL <| zaj [(6, Pp _ _), (7, str _)] E2 fun f => SR <| MS rfl <| CN <| Op1.call1 (v1 := str _) zxZ rfl rfl <| Ret.det (zkA _ _) hst fun w hst => CN (SO (v := zbO _ _ _) hst zbd rfl rfl .u0 fun w hst => ?_)
 refine NL <| zah Tryz.func100 rfl (zal (vs := zeS _ _ _) rfl zbd rfl rfl (zac (n := 3) (hst.objL Q0) _ rfl)) ?_
 rw [argK4 g1 g2 g3]
 exact ⟨rfl, hst.pure⟩
theorem zjz (b : Nat) (ao : Option Addr) (cp : Nat) (l : List TokL) (bm : Nat) (ms : List TokL) (w : World) (hR : (VsR 65 72 3 zbW b ao cp l).holds w) (hM : (Res.row bm 72 (ms.flatMap zbW)).holds w) (hRM : Apart (VsR 65 72 3 zbW b ao cp l) (Res.row bm 72 (ms.flatMap zbW))) (hl : (l.length + ms.length) * 32 ≤ 140737488355328) : Ret Tryz.prog 98 #[.slice (some ⟨bm, 0, none⟩) ms.length ms.length, .pointer (some ⟨b, 0, none⟩)] w (fun v w' => ∃ ao' cp', v = .tuple #[] ∧ St w (VsR 65 72 3 zbW b ao cp l).foot [VsR 65 72 3 zbW b ao' cp' (l ++ ms)] [] w') := by
 refine zav (args := [.slice (some ⟨bm, 0, none⟩) ms.length ms.length, .pointer (some ⟨b, 0, none⟩)]) Tryz.func98 rfl rfl rfl ?_
 have hst : St w (VsR 65 72 3 zbW b ao cp l).foot [VsR 65 72 3 zbW b ao cp l] [Res.row bm 72 (ms.flatMap zbW)] w := St.enter1 hR (by simp only [List.forall_mem_cons]; exact ⟨hM, fun _ h => absurd h List.not_mem_nil⟩) (by simp only [List.forall_mem_cons]; exact ⟨hRM, fun _ h => absurd h List.not_mem_nil⟩)
 replace hst : St _ _ [_, _] _ _ := hst.unpack
 have hml : (ms.flatMap zbW).length = ms.length * 3 := zei (es := 3) zbk ms
 have hmo : (ms.flatMap zbW).all ze2 = true := zpH (fun _ => rfl) _
 refine RG <| CN <| zae (v := .slice _ _ _) zcB rfl rfl (hst.cellL Q0 rfl) <| ML rfl <| CN <| zaI (news := ms.flatMap zbW) hst zcB zbd rfl rfl .u1 rfl rfl hml (zac (n := ms.length * 3) (hst.objD Q0) _ (by rw [List.drop_zero, ← hml, List.take_length])) hmo rfl (by omega) fun w aoN cpN hst => CN (SO (v := .slice _ _ _) hst zcB rfl rfl .u1 fun w hst => ?_)
 refine NL <| zef Tryz.func98 rfl  ?_
 replace hst := hst.pick (.cons .u1 (.cons .u0 .nil))
 exact ⟨_, _, rfl, VsR.app hst.noD⟩
end Go.SK
namespace Go.SK
open Go Go.Proofs
theorem zwg : zaN Tryz.prog 98 := ⟨Tryz.f98, _, Tryz.func98, Kr, rfl⟩
theorem ent100 : zaN Tryz.prog 100 := ⟨Tryz.f100, _, Tryz.func100, Kr, rfl⟩
end Go.SK
namespace Go.SK
open Go Go.Proofs
open Go.RowKit
theorem zuK {op : Int} {fm : FormL} (hfm : zbq op = fm) (k : Nat) (a : ArgP) (w : World) (hG : LxG.holds w) (h0 : 0 ≤ a.n) (h1 : a.n < 4294967296) (hop : 0 ≤ op) (hk : k ≤ 9000000000000000000) : Ret Tryz.prog 100 #[.int .u16 op, .int .i64 (k : Int), .agg #[.int .u8 a.kind, .int .u32 a.n, str a.s]] w (fun v w' => v = .agg #[.int .u8 (zgx (zaP fm (k : Int)) a).kind, str (zgx (zaP fm (k : Int)) a).text, .int .i64 (zgx (zaP fm (k : Int)) a).at_] ∧ St w NoM [] [] w') := by
 subst hfm; exact zwH op k a w hG h0 h1 hop hk
theorem zkB (p : InstP) (w : World) (hG : LxG.holds w) (hA0 : (Res.rargs p).holds w) (hu : p.L.U32) (hop : 0 ≤ p.op) (hsm : (p.args.map za1).sum ≤ 900000000) : Ret Tryz.prog 50 #[.agg #[.int .u16 p.op, .int .u32 p.ty, .int .u32 p.res, .slice p.ao p.args.length p.cap]] w (fun v w' => ∃ ao cp, v = .slice ao (zgd p.L).length cp ∧ St w NoM [Res.sl ao (zgd p.L).length cp 72 3 ((zgd p.L).flatMap zbW)] [] w') := by
 refine zav (args := [.agg #[.int .u16 p.op, .int .u32 p.ty, .int .u32 p.res, .slice p.ao p.args.length p.cap]]) Tryz.func50 rfl rfl rfl ?_
 have hst : St w NoM [] [LxG, Res.rargs p] w := St.init_Ds (by simp only [List.forall_mem_cons]; exact ⟨hG, hA0, fun _ h => absurd h List.not_mem_nil⟩)
 have htR : (zjK p.L).length ≤ 2 := by unfold zjK; split <;> simp
 refine SR <| CN <| zbi (v := zbb _ _ _ _ _ _) hst rfl rfl fun w b1 hst => AL rfl <| NSR <| CN <| zaa zdj rfl <| CN (zae (v := .int .u16 _) zi4 rfl rfl (hst.cellL Q0 rfl) ?_)
 obtain ⟨fm, hfm⟩ : ∃ x, zbq p.op = x := ⟨_, rfl⟩
 obtain ⟨ob, hob⟩ : ∃ x, (zbv p.op).isSome = x := ⟨_, rfl⟩
 refine CN <| Op1.call1 (v1 := .int .u16 _) zue rfl rfl <| Ret.det (zmY hop hfm hob _) hst fun w hst => CN <| zad (v := .tuple #[zau _ _ _ _ _ _ _ _, .bool _]) rfl <| CN <| Ex (zau _ _ _ _ _ _ _ _) rfl rfl <| CN <| Ex (.bool _) rfl rfl <| CN <| Op1.alloc hst zaM fun w b3 hst => CN (SO (v := zau _ _ _ _ _ _ _ _) hst zaM rfl rfl .u0 fun w hst => ?_)
 refine AB rfl <| NSR <| CN <| Op1.alloc hst zcB fun w b5 hst => NL <| SQ ?_
 replace hst := hst.pushNil 72 3
 replace hst := hst.pick (.cons .u1 (.cons .u0 (.cons .u0 (.cons .u0 .nil))))
 replace hst : St _ _ (VsR 65 72 3 zbW b5 none 0 ([] : List TokL) :: _) _ _ := St.pack (L1 := [_, _]) hst
 have htl := fun k => zqA (i := p.L) (fm := fm) (k := k) hu
 have hal : p.L.args.length ≤ 900000000 := Nat.le_trans (zeE _) hsm
 refine RG <| CN <| zce <| CN <| Op1.assign (v := .func _ _ _) rfl <| NL <| SQ <| zcT (L1 := [_]) [(1, Pp _ _), (3, Pp _ _), (5, Pp _ _), (6, .func _ _ _)] hst E4 (fun (qq : Option Addr × Nat) => []) (fun (qq : Option Addr × Nat) => [VsR 65 72 3 zbW b5 qq.1 qq.2 (zjK p.L)]) (fun (qq : Option Addr × Nat) => True) (fun ⟨aq, cq⟩ f w hst hJ2 => ?_) (fun cut1 => ?_)
 replace hst : St _ _ ([VsR 65 72 3 zbW b5 aq cq (zjK p.L)] ++ [_, _]) _ _ := hst
 replace hJ2 : True := hJ2
 skip
 ·refine SR <| CN <| zad (v := .func _ _ _) rfl <| CN <| zaa zjv rfl <| CN <| zae (v := str _) ty9 rfl rfl (hst.cellL Q1 rfl) <| CN <| Op1.call1 (v1 := str _) zxZ rfl rfl <| Ret.det (zkA _ _) hst fun w hst => CN (zaE (z0 := [.int .u8 0, str [], .int .i64 0]) hst zcB zbd rfl rfl Kr (.c (v := zbO _ _ _) rfl (h := .nil)) fun w b29 hst => ?_)
  replace hst := hst.pick (.cons .u1 (.cons .u0 (.cons .u0 (.cons .u0 .nil))))
  refine CN (zdM (v1 := .slice _ _ _) rfl rfl (zev zwg ((zjz b5 aq cq (zjK p.L) b29 [⟨1, fm.name, 0⟩] _ (hst.hL _ Q0) (hst.hL _ Q1) ((List.pairwise_cons.1 hst.sep).1 _ Q0) (by simp only [List.length_append, List.length_cons, List.length_nil]; have h0 := htl 0; rw [zdl] at h0; have h1 := htR; omega)).mono fun v w hp => ?_)))
  obtain ⟨aq4, cq5, rfl, hp⟩ := hp
  replace hst : St _ _ (_ :: _ :: _) _ _ := hst.call1 hp
  clear hp
  replace hst := hst.drop .u1
  refine NL <| SQ <| zcT (L1 := [_]) [(1, Pp _ _), (5, Pp _ _), (6, .func _ _ _)] hst E3 (fun (qq : Option Addr × Nat) => []) (fun (qq : Option Addr × Nat) => [VsR 65 72 3 zbW b5 qq.1 qq.2 (zl8 p.L)]) (fun (qq : Option Addr × Nat) => True) (fun ⟨aq, cq⟩ f w hst hJ7 => ?_) (fun cut6 => ?_)
  replace hst : St _ _ ([VsR 65 72 3 zbW b5 aq cq (zl8 p.L)] ++ [_, _]) _ _ := hst
  replace hJ7 : True := hJ7
  skip
  ·refine SQ <| SR <| CN <| zaa zbR rfl <| CN <| zae (v := .slice _ _ _) zdb rfl rfl (hst.cellL Q2 rfl) <| CN <| zaQ (rest := []) zdb rfl <| MI rfl <| NL <| zao <| zaV <| zaU [(1, Pp _ _), (5, Pp _ _), (6, .func _ _ _), (40, .slice _ _ _), (41, .int .i64 _)] E5 (fun (qq : Nat × Option Addr × Nat) => [(42, .int .i64 (qq.1 : Int))]) (fun (qq : Nat × Option Addr × Nat) => [VsR 65 72 3 zbW b5 qq.2.1 qq.2.2 (zm2 p.L fm qq.1)]) (fun (qq : Nat × Option Addr × Nat) => qq.1 ≤ p.args.length) (fun (qq : Nat × Option Addr × Nat) => p.args.length - qq.1) ((0, aq, cq)) (by (try dsimp only); rw [zdl]; exact hst) (Nat.zero_le _) ⟨rfl, trivial⟩ ?_
   intro ⟨i, aq, cq⟩ f w hst hJ ih9
   replace hst : St _ _ ([VsR 65 72 3 zbW b5 aq cq (zm2 p.L fm i)] ++ [_, _]) _ _ := hst
   replace hJ : i ≤ p.args.length := hJ
   refine za2 (sl := [(42, .int .i64 (i : Int))]) ⟨rfl, trivial⟩ <| SR <| CN <| zaS rfl rfl <| NL <| SQ <| zab rfl (fun g10 => ?_) (fun g10 => ?_)
   ·have hi : i < p.L.args.length := by show i < p.args.length; omega
    have han := hu.args _ (zb8 (d := zeroA) hi)
    refine zaf <| SQ <| zao <| SR <| MI rfl <| CN <| zaO zdb za9 (hst.hD _ Q1) rfl rfl Om Om <| CN <| zar (vs := zcX _ _ _) za9 rfl rfl rfl (Res.rs2_cells (m := 3) (hst.hD _ Q1) _ (zbG (g := zff) (d := zeroA) zcL _ _ Om)) <| CN <| Op1.alloc hst za9 fun w b8 hst => AI rfl <| CN (SO (v := zcy _ _ _) hst za9 rfl rfl .u0 fun w hst => ?_)
    refine NR <| CN <| zad (v := .func _ _ _) rfl <| CN <| zaa zdj rfl <| CN <| zae (v := .int .u16 _) zi4 rfl rfl (hst.cellL Q3 rfl) <| MI rfl <| CN <| zar (vs := zcX _ _ _) za9 rfl rfl rfl (zac (n := 3) (hst.objL Q0) _ rfl) <| CN <| zbD (v1 := .int .u16 _) (v2 := .int .i64 _) (v3 := zcy _ _ _) ent100 rfl rfl rfl rfl <| Ret.det (zuK hfm i (p.args.getD ((i : Int).toNat) zeroA) _ (hst.hD _ Q0) han.1 han.2 hop Om) hst fun w hst => CN (zaE (z0 := [.int .u8 0, str [], .int .i64 0]) hst zcB zbd rfl rfl Kr (.c (v := zbO _ _ _) rfl (h := .nil)) fun w b53 hst => ?_)
    replace hst := hst.pick (.cons .u2 (.cons .u0 (.cons .u0 (.cons .u0 (.cons .u0 .nil)))))
    refine CN (zdM (v1 := .slice _ _ _) rfl rfl (zev zwg ((zjz b5 aq cq (zm2 p.L fm i) b53 [zgx (zaP fm (i : Int)) (p.L.args.getD i zeroA)] _ (hst.hL _ Q0) (hst.hL _ Q1) ((List.pairwise_cons.1 hst.sep).1 _ Q0) (by have h2 := htl i; simp only [List.length_append, List.length_cons, List.length_nil]; have h0 := htl 0; rw [zdl] at h0; have h1 := htR; omega)).mono fun v w hp => ?_)))
    obtain ⟨aq11, cq12, rfl, hp⟩ := hp
    replace hst : St _ _ (_ :: _ :: _) _ _ := hst.call1 hp
    clear hp
    replace hst := hst.drop .u1
    refine NL <| zam <| RG <| CN <| zas rfl rfl rfl zbe <| MI rfl <| NL <| zay ?_
    replace hst := hst.pick (.cons .u0 (.cons .u1 (.cons .u1 .nil)))
    exact ih9 ((i + 1, aq11, cq12)) _ w ((by (try dsimp only); omega)) (by (try dsimp only); rw [zjL (i := p.L) (fm := fm) hi]; exact hst) ((by (try dsimp only); omega)) E5 ⟨(Vi (by (try dsimp only); omega)), trivial⟩
   have hi : i = p.L.args.length := by show i = p.args.length; omega
   refine zaJ (id := 0) rfl <| SQ ?_
   rw [zqB hfm hi] at hst
   replace hst := hst.pick (.cons .u0 (.cons .u0 (.cons .u0 .nil)))
   replace hst : St _ _ (_ :: _ :: _) _ _ := hst.unpack
   refine RG <| CN <| zae (v := .slice _ _ _) zcB rfl rfl (hst.cellL Q0 rfl) <| AL rfl <| NL <| zah Tryz.func50 rfl (TP (v := .slice _ _ _) rfl) ?_
   replace hst := hst.pick (.cons .u1 .nil)
   exact ⟨_, _, rfl, hst.noD⟩
  ·refine SR <| CN <| zaa zdy rfl <| CN <| zae (v := .bool _) ty4 rfl rfl (hst.cellL Q1 rfl) <| NL <| zaA rfl (fun g13 => ?_) (fun g13 => ?_)
   ·refine RG <| CN <| zad (v := .func _ _ _) rfl <| CN <| zaa zdK rfl <| CN <| zae (v := .int .u32 _) zbt rfl rfl (hst.cellL Q2 rfl) <| CN <| Op1.call1 (v1 := .int .u32 _) zxW rfl rfl <| Ret.det (zp2 p.ty hu.ty.1 hu.ty.2 _ (hst.hD _ Q0)) hst fun w hst => CN (zaE (z0 := [.int .u8 0, str [], .int .i64 0]) hst zcB zbd rfl rfl Kr (.c (v := zbO _ _ _) rfl (h := .nil)) fun w b37 hst => ?_)
    replace hst := hst.pick (.cons .u1 (.cons .u0 (.cons .u0 (.cons .u0 .nil))))
    refine CN (zdM (v1 := .slice _ _ _) rfl rfl (zev zwg ((zjz b5 aq4 cq5 ((zjK p.L) ++ [⟨1, fm.name, 0⟩]) b37 [idK p.ty] _ (hst.hL _ Q0) (hst.hL _ Q1) ((List.pairwise_cons.1 hst.sep).1 _ Q0) (by simp only [List.length_append, List.length_cons, List.length_nil]; have h0 := htl 0; rw [zdl] at h0; have h1 := htR; omega)).mono fun v w hp => ?_)))
    obtain ⟨aq14, cq15, rfl, hp⟩ := hp
    replace hst : St _ _ (_ :: _ :: _) _ _ := hst.call1 hp
    clear hp
    replace hst := hst.drop .u1
    refine NL ?_
    exact cut6 ((aq14, cq15)) _ w ((by rw [zl7 (i := p.L) hfm g13]; exact hst)) (trivial) E3 trivial
   refine zaf ?_
   exact cut6 ((aq4, cq5)) _ w ((by rw [zph (i := p.L) hfm g13]; exact hst)) (trivial) E3 trivial
 ·refine SR <| CN <| zaa zcS rfl <| CN <| zae (v := .bool _) ty4 rfl rfl (hst.cellL Q1 rfl) <| NL <| zaA rfl (fun g16 => ?_) (fun g16 => ?_)
  ·refine RG <| CN <| zad (v := .func _ _ _) rfl <| CN <| zaa zeb rfl <| CN <| zae (v := .int .u32 _) zbt rfl rfl (hst.cellL Q2 rfl) <| CN <| Op1.call1 (v1 := .int .u32 _) zxW rfl rfl <| Ret.det (zp2 p.res hu.res.1 hu.res.2 _ (hst.hD _ Q0)) hst fun w hst => CN (zag zbd zda (.c (v := .int .u8 _) rfl (h := (.c (v := str _) rfl (h := .nil)))) ?_)
   refine CN (zaE (z0 := [.int .u8 0, str [], .int .i64 0, .int .u8 0, str [], .int .i64 0]) hst zcB zbd rfl rfl Kr (.c (v := zbO _ _ _) rfl (h := (.c (v := zbO _ _ _) rfl (h := .nil)))) fun w b23 hst => ?_)
   replace hst := hst.pick (.cons .u1 (.cons .u0 (.cons .u0 (.cons .u0 .nil))))
   refine CN (zdM (v1 := .slice _ _ _) rfl rfl (zev zwg ((zjz b5 none 0 [] b23 [idK p.res, ⟨5, [61], 0⟩] _ (hst.hL _ Q0) (hst.hL _ Q1) ((List.pairwise_cons.1 hst.sep).1 _ Q0) (by simp only [List.length_append, List.length_cons, List.length_nil]; have h0 := htl 0; rw [zdl] at h0; have h1 := htR; omega)).mono fun v w hp => ?_)))
   obtain ⟨aq17, cq18, rfl, hp⟩ := hp
   replace hst : St _ _ (_ :: _ :: _) _ _ := hst.call1 hp
   clear hp
   replace hst := hst.drop .u1
   refine NL ?_
   exact cut1 ((aq17, cq18)) _ w ((by rw [zl6 (i := p.L) hfm g16]; exact hst)) (trivial) E4 trivial
  refine zaf ?_
  exact cut1 ((none, 0)) _ w ((by rw [zpg (i := p.L) hfm g16]; exact hst)) (trivial) E4 trivial
end Go.SK
namespace Go.SK
open Go Go.Proofs
theorem ent63 : zaN Tryz.prog 63 := ⟨Tryz.f63, _, Tryz.func63, Kr, rfl⟩
theorem zpG : FldF Tryz.prog 92 0 0 := FldF.of (n := 1) Kr
theorem ent95 : zaN Tryz.prog 95 := ⟨Tryz.f95, _, Tryz.func95, Kr, rfl⟩
theorem ent96 : zaN Tryz.prog 96 := ⟨Tryz.f96, _, Tryz.func96, Kr, rfl⟩
theorem ty92 : TyF Tryz.prog 92 (.struct (zbJ Tryz.prog 92)) 2 32 [.pointer none, .slice none 0 0] := zbK Kr Kr
theorem ent47 : zaN Tryz.prog 47 := ⟨Tryz.f47, _, Tryz.func47, Kr, rfl⟩
theorem ent50 : zaN Tryz.prog 50 := ⟨Tryz.f50, _, Tryz.func50, Kr, rfl⟩
theorem ent51 : zaN Tryz.prog 51 := ⟨Tryz.f51, _, Tryz.func51, Kr, rfl⟩
theorem zoh : zaN Tryz.prog 21 := ⟨Tryz.f21, _, Tryz.func21, Kr, rfl⟩
end Go.SK
namespace Go.SK
open Go Go.Proofs
open Go.RowKit
theorem zf3 {gn bd se sa : Int} {l : List InstP} (hS : zbz bd (l.map InstP.L) = (se, sa)) (ao : Option Addr) (cp : Nat) (w : World) (hA : (Res.rmod ao l).holds w) (hs : Small l) : Ret Tryz.prog 19 #[.agg #[.int .u32 gn, .int .u32 bd, .slice ao l.length cp]] w (fun v w' => v = .agg #[.int .i64 se, .int .i64 sa] ∧ St w NoM [] [] w') :=
 zkH gn bd l ao cp hS w hA hs.len hs.op hs.sum hs.txt
theorem zoL (b : Nat) (p : Value) (ao : Option Addr) (cp : Nat) (l : Tx) (ts : List TokL) (ao2 : Option Addr) (c2 : Nat) (rT : Res) (hrs : ∀ w : World, rT.holds w → (Res.rs ao2 ts.length 3 (ts.flatMap zbW)).holds w) (w : World) (hG : LxG.holds w) (hR : (BdR 92 5 b p ao cp l).holds w) (hp0 : p = .pointer none ∨ p = .pointer (some ⟨b, 0, none⟩)) (hT : rT.holds w) (hRG : Apart (BdR 92 5 b p ao cp l) LxG) (hRT : Apart (BdR 92 5 b p ao cp l) rT) (hlt : ts.length ≤ 1099511627776) (hwt : wsz ts ≤ 1099511627776) (hl : l.length + (wrS ts).length + 1 ≤ 140737488355328) : Ret Tryz.prog 47 #[.pointer (some ⟨b, 0, none⟩), .slice ao2 ts.length c2] w (fun v w' => ∃ ao' cp', v = .tuple #[] ∧ St w (BdR 92 5 b p ao cp l).foot [BdR 92 5 b (.pointer (some ⟨b, 0, none⟩)) ao' cp' (l ++ wrS ts ++ [10])] [] w') := by
 refine zav (args := [.pointer (some ⟨b, 0, none⟩), .slice ao2 ts.length c2]) Tryz.func47 rfl rfl rfl ?_
 have hst : St w (BdR 92 5 b p ao cp l).foot [BdR 92 5 b p ao cp l] [LxG, rT] w := St.enter1 hR (by simp only [List.forall_mem_cons]; exact ⟨hG, hT, fun _ h => absurd h List.not_mem_nil⟩) (by simp only [List.forall_mem_cons]; exact ⟨hRG, hRT, fun _ h => absurd h List.not_mem_nil⟩)
 refine SR <| ML rfl <| CN <| Op1.call1 (v1 := .slice _ _ _) ent63 rfl rfl <| Ret.det (zkE ts _ _ _ (hst.hD _ Q0) (hrs _ (hst.hD _ Q1)) hlt hwt) hst fun w hst => CN <| zad (v := .tuple #[str _, .int .i64 _]) rfl <| CN <| Ex (str _) rfl rfl <| CN <| Ex (.int .i64 _) rfl rfl <| AS rfl <| AI rfl <| NSR <| MP rfl <| CN <| zaK rfl <| CN (zaa zpG rfl ?_)
 refine MS rfl <| CN (zaz (v1 := Pp _ _) (v2 := str _) ent95 rfl rfl rfl ((zja b p ao cp l (wrS ts) _ (hst.hL _ Q0) hp0 Om).mono fun v w hp => ?_))
 obtain ⟨ao1, cp1, rfl, hp⟩ := hp
 replace hst : St _ _ [_] _ _ := hst.call1 hp
 clear hp
 refine NR <| MP rfl <| CN <| zaK rfl <| CN <| zaa zpG rfl <| CN (zaz (v1 := Pp _ _) (v2 := .int .u8 _) ent96 rfl rfl rfl ((zk1 b _ ao1 cp1 (l ++ wrS ts) _ (hst.hL _ Q0) (.inr rfl) (by rw [List.length_append]; omega)).mono fun v w hp => ?_))
 obtain ⟨ao3, cp3, rfl, hp⟩ := hp
 replace hst : St _ _ [_] _ _ := hst.call1 hp
 clear hp
 refine NL <| zef Tryz.func47 rfl  ?_
 replace hst := hst.pick (.cons .u0 .nil)
 exact ⟨_, _, rfl, hst.noD⟩
theorem zuL (gn bd : Int) (l : List InstP) (ao : Option Addr) (cp : Nat) (w : World) (hG : LxG.holds w) (hA0 : (Res.rmod ao l).holds w) (hs : Small l) (hu : ∀ x ∈ l, x.L.U32) (hgn : 0 ≤ gn ∧ gn < 4294967296) (hbd : 0 ≤ bd ∧ bd < 4294967296) : Ret Tryz.prog 21 #[.agg #[.int .u32 gn, .int .u32 bd, .slice ao l.length cp]] w (fun v w' => v = .tuple #[str (zc9 gn bd (l.map InstP.L)).1, .agg #[.int .i64 (zc9 gn bd (l.map InstP.L)).2.1, .int .i64 (zc9 gn bd (l.map InstP.L)).2.2]] ∧ St w NoM [] [] w') := by
 refine zav (args := [.agg #[.int .u32 gn, .int .u32 bd, .slice ao l.length cp]]) Tryz.func21 rfl rfl rfl ?_
 have hst : St w NoM [] [LxG, Res.rmod ao l] w := St.init_Ds (by simp only [List.forall_mem_cons]; exact ⟨hG, hA0, fun _ h => absurd h List.not_mem_nil⟩)
 have hln := hs.len
 refine SR <| CN <| zbi (v := zb2 _ _ _ _ _) hst rfl rfl fun w b1 hst => AS rfl <| CN <| Op1.alloc hst za0 fun w b3 hst => NL <| SQ <| SR <| CN (zar (vs := zdH _ _ _ _ _) zb3 rfl rfl rfl (zac (n := 3) (hst.objL Q1) _ rfl) ?_)
 obtain ⟨se, sa, hS⟩ : ∃ se sa, zbz bd (l.map InstP.L) = (se, sa) := ⟨_, _, rfl⟩
 refine CN <| Op1.call1 (v1 := zb2 _ _ _ _ _) zui rfl rfl <| Ret.det (zf3 hS _ _ _ (hst.hD _ Q1) hs) hst fun w hst => CN <| Op1.alloc hst za0 fun w b4 hst => CN (SO (v := gII _ _) hst za0 rfl rfl .u0 fun w hst => ?_)
 refine NSR <| CN <| zaa zbr rfl <| CN <| zae (v := .int .i64 _) zcO rfl rfl (hst.cellL Q0 rfl) <| CN <| zaW rfl rfl <| NL <| zab rfl (fun g1 => ?_) (fun g1 => ?_)
 ·refine SQ <| RunD.start [] hst (bs := [0, 0, 3]) (ds := [some 13, some 2, none]) ⟨Kr, Kr, Kr⟩ (fun tab2 => ?_)
  refine DO tab2 1 (fun f' L' w' hc=> zar (vs := lII _ _) za0 rfl (hc.old (v := Pp _ _) rfl rfl rfl) rfl (zac (n := 2) (hc.st.objL (List.mem_append_right _ Q0)) _ rfl) hc.z) <| DO tab2 2 (fun _ _ _ hc => Op1.assign (v := str _) rfl hc.z) <| RunD.fin zaw tab2 hst rfl (fun f3 w R6 hs4 hd5 hr7 hst => ?_)
  obtain ⟨h13_, r0⟩ := hd5 0 13 rfl rfl
  obtain ⟨h2_, r1⟩ := hd5 1 2 rfl rfl
  simp only [rg2, Fc, Fn, Mc, Mn, r0, r1, Na, An, Ca] at hst
  refine zaD (sl := [(2, str _), (3, Pp _ _), (13, gII _ _)]) ⟨h2_, (hs4 3 rfl).trans rfl, h13_, trivial⟩ ?_
  clear hs4 hd5 hr7 tab2
  refine CN (SO (v := gII _ _) hst za0 rfl rfl .u1 fun w hst => ?_)
  refine NL <| zai Tryz.func21 rfl (TP (v := str _) rfl) (zal (vs := lII _ _) rfl za0 rfl rfl (zac (n := 2) (hst.objL Q1) _ rfl)) ?_
  rw [zma (gn := gn) (by rw [hS]; exact g1), hS]
  exact ⟨rfl, hst.pure⟩
 have hs0 : (zbz bd (l.map InstP.L)).1 = 0 := by rw [hS]; exact Nn g1
 refine zaf <| SR <| CN <| Op1.alloc hst ty92 fun w b5 hst => NL <| SQ ?_
 replace hst := hst.pushNil 5 1
 replace hst := hst.pick (.cons .u1 (.cons .u0 (.cons .u0 (.cons .u0 (.cons .u0 .nil)))))
 replace hst : St _ _ (BdR 92 5 b5 (.pointer none) none 0 ([] : Tx) :: _) _ _ := St.pack (L1 := [_, _]) hst
 have hwh := zv4 (gn := gn) (bd := bd) hgn hbd
 have hjl := fun i => zlh (gn := gn) hs0 hgn hbd.1 hu i
 have hj0 := hjl 0
 rw [zey, List.length_append] at hj0
 refine RunD.start [] hst (bs := [0, 0, 2, 7, 0, 16, 63, 127, 255]) (ds := [some 14, some 15, some 16, some 17, some 18, some 19, some 20, some 21, some 22]) ⟨Kr, Kr, Kr⟩ (fun tab8 => ?_)
 refine DO tab8 1 (fun f' L' w' hc=> Op1.call1 (v1 := str _) zxZ rfl rfl ((zkA modW _).mono fun v w hp => ⟨[], ⟨hp.1, rfl⟩, hc.st.keepc hp.2⟩)) <| DO tab8 2 (fun f' L' w' hc=> zaa zfO (hc.old (v := Pp _ _) rfl rfl rfl) hc.z) <| DO tab8 3 (fun f' L' w' hc=> zae (v := .int .u32 _) zbt rfl (hc.d 1 rfl rfl rfl rfl) (hc.st.cellL (List.mem_append_right _ Q3) rfl) hc.z) <| DO tab8 4 (fun f' L' w' hc=> Op1.call1 (v1 := .int .u32 _) zxY rfl (hc.d 2 rfl rfl rfl rfl) ((zhx gn hgn.1 hgn.2 _ (hc.st.hD _ Q0)).mono fun v w hp => ⟨[], ⟨hp.1, rfl⟩, hc.st.keepc hp.2⟩)) <| DO tab8 5 (fun f' L' w' hc=> zaa zcA (hc.old (v := Pp _ _) rfl rfl rfl) hc.z) <| DO tab8 6 (fun _ _ _ hc => zae (v := .int .u32 _) zbt rfl (hc.d 4 rfl rfl rfl rfl) (hc.st.cellL (List.mem_append_right _ Q3) rfl) hc.z) <| RunD.fin zaw tab8 hst rfl (fun f9 w R12 hs10 hd11 hr13 hst => ?_)
 obtain ⟨h14_, r0⟩ := hd11 0 14 rfl rfl
 obtain ⟨h15_, r1⟩ := hd11 1 15 rfl rfl
 obtain ⟨h16_, r2⟩ := hd11 2 16 rfl rfl
 obtain ⟨h17_, r3⟩ := hd11 3 17 rfl rfl
 obtain ⟨h18_, r4⟩ := hd11 4 18 rfl rfl
 obtain ⟨h19_, r5⟩ := hd11 5 19 rfl rfl
 simp only [rg6, Fc, Fn, Mc, Mn, r0, r1, r2, r3, r4, r5, Na, An, Ca] at hst
 refine zaD (sl := [(1, Pp _ _), (3, Pp _ _), (5, Pp _ _), (14, zbO _ _ _), (17, zbO _ _ _), (19, .int .u32 _)]) ⟨(hs10 1 rfl).trans rfl, (hs10 3 rfl).trans rfl, (hs10 5 rfl).trans rfl, h14_, h17_, h19_, trivial⟩ ?_
 clear hs10 hd11 hr13 tab8
 refine CN <| Op1.call1 (v1 := .int .u32 _) zxY rfl rfl <| Ret.det (zhx bd hbd.1 hbd.2 _ (hst.hD _ Q0)) hst fun w hst => CN (zaE (z0 := [.int .u8 0, str [], .int .i64 0, .int .u8 0, str [], .int .i64 0, .int .u8 0, str [], .int .i64 0]) hst zcB zbd rfl rfl Kr (.c (v := zbO _ _ _) rfl (h := (.c (v := zbO _ _ _) rfl (h := (.c (v := zbO _ _ _) rfl (h := .nil)))))) fun w b21 hst => ?_)
 replace hst := hst.pick (.cons .u1 (.cons .u0 (.cons .u0 (.cons .u0 (.cons .u0 .nil)))))
 refine CN (zaz (v1 := Pp _ _) (v2 := .slice _ _ _) ent47 rfl rfl rfl ((zoL b5 (.pointer none) none 0 [] (ziH gn bd) (some ⟨b21, 0, none⟩) _ (Res.row b21 72 ((ziH gn bd).flatMap zbW)) (fun w h => row_rs h rfl) _ (hst.hD _ Q0) (hst.hL _ Q0) (.inl rfl) (hst.hL _ Q1) (hst.sepD _ Q0 _ Q0) ((List.pairwise_cons.1 hst.sep).1 _ Q0) (by show 3 ≤ 1099511627776; omega) (by omega) (by simp only [List.length_nil, List.length_cons] at hj0 ⊢; omega)).mono fun v w hp => ?_))
 obtain ⟨aq0, cq0, rfl, hp⟩ := hp
 replace hst : St _ _ (_ :: _) _ _ := hst.call1 hp
 clear hp
 replace hst := hst.drop .u1
 refine NL <| zaj [(1, Pp _ _), (3, Pp _ _), (5, Pp _ _)] E3 fun f => SQ <| SR <| CN <| zaa zbU rfl <| CN <| zae (v := .slice _ _ _) zdo rfl rfl (hst.cellL Q3 rfl) <| CN <| zaQ (rest := []) zdo rfl <| MI rfl <| NL <| zao <| zaV <| zaU [(3, Pp _ _), (5, Pp _ _), (24, .slice _ _ _), (25, .int .i64 _)] E4 (fun (qq : Nat × Option Addr × Nat) => [(26, .int .i64 (qq.1 : Int))]) (fun (qq : Nat × Option Addr × Nat) => [BdR 92 5 b5 (.pointer (some ⟨b5, 0, none⟩)) qq.2.1 qq.2.2 (zdZ gn bd (l.map InstP.L) qq.1)]) (fun (qq : Nat × Option Addr × Nat) => qq.1 ≤ l.length) (fun (qq : Nat × Option Addr × Nat) => l.length - qq.1) ((0, aq0, cq0)) (by (try dsimp only); rw [zey]; exact hst) (Nat.zero_le _) ⟨rfl, trivial⟩ ?_
 intro ⟨i, aq, cq⟩ f w hst hJ ih14
 replace hst : St _ _ ([BdR 92 5 b5 (.pointer (some ⟨b5, 0, none⟩)) aq cq (zdZ gn bd (l.map InstP.L) i)] ++ [_, _, _]) _ _ := hst
 replace hJ : i ≤ l.length := hJ
 refine za2 (sl := [(26, .int .i64 (i : Int))]) ⟨rfl, trivial⟩ <| SR <| CN <| zaS rfl rfl <| NL <| SQ <| zab rfl (fun g15 => ?_) (fun g15 => ?_)
 ·have hi : i < l.length := by omega
  have hym : (l.getD i zeroI) ∈ l := zb8 hi
  have hyu := hu _ hym
  have hyo := hs.op _ hym
  have hys := hs.sum _ hym
  have hyw := zgG hyu hys
  have hyn := zrI (gn := gn) hi hs0 hbd.1 hu
  refine zaf <| SQ <| zao <| SR <| CN <| zaO zdo zbp (Res.rmod_insts (hst.hD _ Q1)) rfl rfl Om Om <| CN <| zar (vs := zbg _ _ _ _ _ _) zbp rfl rfl rfl (Res.rs2_cells (m := 4) (Res.rmod_insts (hst.hD _ Q1)) _ (zbG (g := zdu) (d := zeroI) zcG _ _ Om)) <| CN <| Op1.alloc hst zbp fun w b7 hst => CN (SO (v := zbb _ _ _ _ _ _) hst zbp rfl rfl .u0 fun w hst => ?_)
  refine NR <| CN <| zar (vs := zbg _ _ _ _ _ _) zbp rfl rfl rfl (zac (n := 4) (hst.objL Q0) _ rfl) <| CN (Op1.call1 (v1 := zbb _ _ _ _ _ _) ent50 rfl rfl ((zkB (l.getD ((i : Int).toNat) zeroI) _ (hst.hD _ Q0) (Res.rmod_argsI (hst.hD _ Q1) hi) hyu hyo hys).mono fun v w hp => ?_))
  obtain ⟨aoK, cpK, rfl, hp⟩ := hp
  replace hst : St _ _ (_ :: _) _ _ := hst.call0 hp
  clear hp
  replace hst := hst.pick (.cons .u2 (.cons .u0 (.cons .u0 (.cons .u0 (.cons .u0 (.cons .u0 .nil))))))
  refine CN (zaz (v1 := Pp _ _) (v2 := .slice _ _ _) ent47 rfl rfl rfl ((zoL b5 (.pointer (some ⟨b5, 0, none⟩)) aq cq (zdZ gn bd (l.map InstP.L) i) (zgd (l.getD i zeroI).L) aoK _ _ (fun w h => Res.rs_of_sl h) _ (hst.hD _ Q0) (hst.hL _ Q0) (.inr rfl) (hst.hL _ Q1) (hst.sepD _ Q0 _ Q0) ((List.pairwise_cons.1 hst.sep).1 _ Q0) hyw.2 hyw.1 (by have h1 := congrArg List.length hyn.1; simp only [List.length_append, List.length_cons, List.length_nil] at h1; have h2 := hjl (i + 1); show (zdZ gn bd (l.map InstP.L) i).length + (wrS (zgd (l.getD i zeroI).L)).length + 1 ≤ _; omega)).mono fun v w hp => ?_))
  obtain ⟨aq2, cq2, rfl, hp⟩ := hp
  replace hst : St _ _ (_ :: _) _ _ := hst.call1 hp
  clear hp
  rw [hyn.1] at hst
  refine NL <| zam <| RG <| CN <| zas rfl rfl rfl zbe <| MI rfl <| NL <| zay ?_
  replace hst := hst.pick (.cons .u0 (.cons .u2 (.cons .u2 (.cons .u2 .nil))))
  exact ih14 ((i + 1, aq2, cq2)) _ w (Od) hst (Od) E4 ⟨(Vi Od), trivial⟩
 have hi : i = l.length := by omega
 refine zaJ (id := 0) rfl <| SR <| CN (zaa zpG rfl ?_)
 replace hst := hst.pick (.cons .u0 (.cons .u0 (.cons .u0 (.cons .u0 .nil))))
 refine CN (Op1.call1 (v1 := Pp _ _) ent51 rfl rfl ((zp5 b5 _ aq cq _ _ (hst.hL _ Q0) zvz).mono fun v w hp => ?_))
 obtain ⟨rfl, hp⟩ := hp
 replace hst : St _ _ _ _ _ := hst.call1 hp
 clear hp
 rw [List.nil_append] at hst
 refine CN (zag za0 zcE .nil ?_)
 refine AS rfl <| CN (SO (v := gII _ _) hst za0 rfl rfl .u1 fun w hst => ?_)
 refine NL <| zai Tryz.func21 rfl (TP (v := str _) rfl) (zal (vs := lII _ _) rfl za0 rfl rfl (zac (n := 2) (hst.objL Q1) _ rfl)) ?_
 rw [zjO (gn := gn) hs0, List.length_map, ← hi]
 exact ⟨rfl, hst.pure⟩
theorem zdm {gn bd se sa : Int} {l : List InstP} {x : Tx} (hT : zc9 gn bd (l.map InstP.L) = (x, (se, sa))) (ao : Option Addr) (cp : Nat) (w : World) (hG : LxG.holds w) (hA0 : (Res.rmod ao l).holds w) (hs : Small l) (hu : ∀ x ∈ l, x.L.U32) (hgn : 0 ≤ gn ∧ gn < 4294967296) (hbd : 0 ≤ bd ∧ bd < 4294967296) : Ret Tryz.prog 21 #[.agg #[.int .u32 gn, .int .u32 bd, .slice ao l.length cp]] w (fun v w' => v = .tuple #[str x, .agg #[.int .i64 se, .int .i64 sa]] ∧ St w NoM [] [] w') := by
 have h := zuL gn bd l ao cp w hG hA0 hs hu hgn hbd
 rw [hT] at h; exact h
end Go.SK
