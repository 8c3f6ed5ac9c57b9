/-
  Steps of functions, plain law, and walks of functions: what the laws rest on.
-/
import Derived.Test.YtalnjboddfedjaaDoorSkG0b
import Derived.Test.YtalnjboddfedjaaDoorSkG1a
import Derived.Test.YtalnjboddfedjaaDoorSkG2a
import Derived.Test.YtalnjboddfedjaaDoorSkG5a
import Derived.Test.YtalnjboddfedjaaDoorSkG6a
import Derived.Test.YtalnjboddfedjaaDoorSkG7a
import Derived.Test.YtalnjboddfedjaaDoorSkG9a
import Derived.Test.YtalnjboddfedjaaDoorSkG12a
import Derived.Test.YtalnjboddfedjaaDoorSkG14a
import Derived.Test.YtalnjboddfedjaaDoorSkG15a
import Derived.Test.YtalnjboddfedjaaDoorSkG16a
import Derived.Test.YtalnjboddfedjaaDoorSkG21a
import Derived.Test.YtalnjboddfedjaaDoorSkG22a
import Derived.Test.YtalnjboddfedjaaDoorSkG24a
import Derived.Test.YtalnjboddfedjaaDoorSkG25a
set_option linter.unusedVariables false
set_option linter.unusedSimpArgs false
set_option linter.unusedSectionVars false
namespace Go.SK
open Go.RowKit
section
variable {P : Program} {ty : TypeId} {ρ : Operand → Value} {w0 w : World} {C : Value → World → Prop} {M : Nat → Prop} {L L' D : List Res}
variable {T e : TypeId} {de : TypeDesc} {d : TypeDesc} {sz bytes es eb : Nat} {zs ez : List Value} {ao : Option Addr} {n cap : Nat} {xs : List Value}
def zerosOf (zs : List Value) (n : Nat) : List Value := (List.range n).flatMap fun _ => zs
end
end Go.SK
namespace Go.SK
open Go.RowKit Go.ChangeShapes Go.WideShapes Go.ChangeAt
theorem zerosOf_len {ez : List Value} {es : Nat} (h : ez.length = es) (k : Nat) : (zerosOf ez k).length = k * es := by
  unfold zerosOf; rw [flat_len (es := es) (fun _ => h)]; simp
section
variable {P : Program} {ty : TypeId} {ρ : Operand → Value} {w0 w : World} {C : Value → World → Prop} {M : Nat → Prop} {L L' D : List Res}
variable {T e : TypeId} {de : TypeDesc} {sz bytes es eb : Nat} {zs ez : List Value} {ao ao2 : Option Addr} {n cap m c : Nat} {xs ys : List Value}
theorem Op1.makeSlV {x y : Operand} {kl kc : IntKind} {k : Nat} (hst : St w0 M L D w) (hT : TyF P T (.slice e) sz bytes zs) (he : TyF P e de es eb ez) (hx : ρ x = .int kl k) (hy : ρ y = .int kc k) (hez : ez.length = es) (hes : 0 < es) (hk : eb * k ≤ 281474976710656) (hk2 : k ≤ 9223372036854775807)
    (h : ∀ (w' : World) (b : Nat), St w0 M (Res.sl (some ⟨b, 0, none⟩) k k e es (zerosOf ez k) :: L) D w' → C (.slice (some ⟨b, 0, none⟩) k k) w') : Op1 P (.makeSlice T x y) ty ρ w C := by
  obtain ⟨i, z, h1, h2, h3, h4, h5⟩ := he.info
  have hbb : (i.bytes : Int) * (k : Int) ≤ 281474976710656 := by
    rw [h3]
    have h : ((eb * k : Nat) : Int) ≤ 281474976710656 := by omega
    simpa using h
  have hr := run_make (P := P) w T e i z hT.und h1 h4 kl kc (k : Int) (k : Int) (by omega) (by omega) hbb (by omega)
  have hcells : madeCells z.cells ((k : Int).toNat * i.size) = (zerosOf ez k).toArray := by
    rw [h2, h5, Int.toNat_natCast]
    have hlen := zerosOf_len hez k
    apply Array.ext
    · simp [madeCells, hlen]
    · intro j hj1 hj2
      have hj : j < k * es := by simpa [madeCells] using hj1
      have hmod : j % es < es := Nat.mod_lt _ hes
      have hdiv : j / es < k := Nat.div_lt_of_lt_mul (by rw [Nat.mul_comm]; exact hj)
      have hg : (zerosOf ez k)[j]? = ez[j % es]? := by
        have h3 := flat_drop (α := Nat) (g := fun _ => ez) (es := es) (fun _ => hez) (List.range k) (j / es)
        have h4 : ((zerosOf ez k).drop (j / es * es))[j % es]? = ez[j % es]? := by
          unfold zerosOf
          rw [h3, List.drop_eq_getElem_cons (by simpa using hdiv), List.flatMap_cons, List.getElem?_append_left (by omega)]
        rw [List.getElem?_drop, show j / es * es + j % es = j by rw [Nat.mul_comm]; exact Nat.div_add_mod j es] at h4
        exact h4
      have hlt : j < (zerosOf ez k).length := by omega
      have h6 : (zerosOf ez k)[j] = ez[j % es]'(by omega) := by
        have e1 := List.getElem?_eq_getElem hlt
        rw [hg, List.getElem?_eq_getElem (by omega)] at e1
        exact (Option.some.inj e1).symm
      have h7 : ez[j % es]? = some (ez[j % es]'(by omega)) := List.getElem?_eq_getElem _
      simp [madeCells, hez, h6, h7]
  refine Inv.value (v := .slice (some ⟨w.heap.size, 0, none⟩) k k) (w' := w.alloc (.cells (zerosOf ez k).toArray e)) ?_ (h _ _ ?_)
  · simp only [execOp, hx, hy, Sem.run_bind, hr, Result.andThen, hcells]
    rfl
  · refine hst.push (Kept.alloc _ _ _) ?_ ?_
    · refine ⟨zerosOf_len hez k, .inr ⟨_, _, _, rfl, Nat.zero_le _, alloc_new _ _, Nat.le_refl _, by simp [maxLen]; omega, by simp [zerosOf_len hez k], ?_⟩⟩
      simp only [List.toList_toArray]
      rw [List.take_of_length_le]
      rw [zerosOf_len hez k]; exact Nat.le_refl _
    · intro b hb
      have : some w.heap.size = some b := hb
      cases this; exact Nat.le_refl _
end
end Go.SK
namespace Go.SK
open Go.RowKit Go.ChangeShapes Go.WideShapes Go.ChangeAt
theorem cpG_zero {α : Type} {g : α → List Value} {d : α} {ez : List Value} (hd : g d = ez) (l : List α) (n : Nat) : zerosOf ez n = (cpG d l n 0).flatMap g := by
  unfold cpG zerosOf
  simp only [List.take_zero, List.nil_append, Nat.sub_zero]
  induction n with
  | zero => rfl
  | succ n ih => rw [List.range_succ, List.flatMap_append, ih, List.replicate_succ', List.flatMap_append, ← hd]; simp
theorem cpG_all {α : Type} (d : α) (l : List α) : cpG d l l.length l.length = l := by simp [cpG]
theorem cpG_set {α : Type} {d : α} {l : List α} {n i : Nat} (hi : i < l.length) (hn : i < n) : (cpG d l n i).set i (l.getD i d) = cpG d l n (i + 1) := by
  unfold cpG
  have e : l.getD i d = l[i] := by simp [List.getD, hi]
  rw [e, List.set_append_right _ _ (by simp; omega), List.length_take, Nat.min_eq_left (by omega), Nat.sub_self, show n - i = (n - (i + 1)) + 1 by omega, List.replicate_succ, List.set_cons_zero, List.take_succ_eq_append_getElem hi, List.append_assoc]
  rfl
theorem cpG_step {α : Type} {g : α → List Value} {es : Nat} (hg : ∀ a, (g a).length = es) {d : α} {l : List α} {i : Nat} {x : List Value} (hi : i < l.length) (hx : x = g (l.getD i d)) : setSeg ((cpG d l l.length i).flatMap g) (0 + (i : Int).toNat * es) x = (cpG d l l.length (i + 1)).flatMap g := by
  subst hx
  rw [Nat.zero_add, Int.toNat_natCast, setSeg_flat hg _ _ _ (by simp [cpG]; omega), cpG_set hi hi]
end Go.SK
namespace Go.SK
theorem join_snoc : ∀ (l : List Tx) (x : Tx), l ≠ [] → Lib.join (l ++ [x]) [32] = Lib.join l [32] ++ 32 :: x
  | [], x, h => absurd rfl h
  | [y], x, _ => by rw [List.singleton_append, join_cons, join_one', join_one']
  | y :: z :: r, x, _ => by
    rw [List.cons_append, List.cons_append, join_cons, join_cons, ← List.cons_append, join_snoc (z :: r) x (by simp)]; simp
end Go.SK
namespace Go.SK
open Go Go.Proofs
theorem ent43 : Enters Tryd.prog 43 := ⟨Tryd.f43, _, Tryd.func43, by kernel_rfl, rfl⟩
end Go.SK
namespace Go.SK
open Go Go.Proofs
open Go.RowKit
theorem R4lx_One (t : TokL) (w : World) (hl : t.text.length ≤ 1099511627776) : Ret Tryd.prog 43 #[.agg #[.int .u8 t.kind, str t.text, .int .i64 t.at_]] w (fun v w' => (∃ x, wrT t = some x ∧ v = .tuple #[str x, .int .i64 0] ∧ St w NoM [] [] w') ∨ (wrT t = none ∧ v = .tuple #[str [], .int .i64 2] ∧ St w NoM [] [] w')) := by
 refine Ret.enter (args := [.agg #[.int .u8 t.kind, str t.text, .int .i64 t.at_]]) Tryd.func43 rfl rfl rfl ?_
 have hst := St.init w
 refine SR <| CN <| Op1.box (v := .agg #[.int .u8 _, str _, .int .i64 _]) hst rfl rfl fun w b1 hst => AS rfl <| AI rfl <| NL <| SQ <| SR <| CN <| Op1.fieldAddr fld30_0 rfl <| CN <| Op1.load1 (v := .int .u8 _) ty5 rfl rfl (hst.cellL (.head _) rfl) <| NL <| run_block <| SQ <| RG ?_
 refine CN <| Op1.eql rfl rfl <| AB rfl <| NL <| run_cond_dec rfl (fun g1 => ?_) (fun g1 => ?_)
 · skip
   refine SQ <| RunD.start [] hst (bs := [0, 1, 3, 7, 15, 31, 63, 127, 255, 511, 1023, 2047, 4095, 1023, 9215, 32767, 65535]) (ds := [some 12, some 13, some 14, some 15, some 16, some 17, some 18, some 19, some 20, some 21, some 22, some 23, some 24, some 25, some 26, some 27, some 28]) ⟨by kernel_rfl, by kernel_rfl, by kernel_rfl⟩ (fun tab2 => ?_)
   refine RunD.op (det _) tab2 1 (fun f' L' w' hc => Op1.fieldAddr fld30_1 (hc.old (v := .pointer (some ⟨_, _, none⟩)) rfl rfl rfl) ⟨[], ⟨rfl, rfl⟩, hc.st⟩) <| RunD.op (det _) tab2 2 (fun f' L' w' hc => Op1.load1 (v := str _) ty9 rfl (hc.det (j := 0) rfl rfl rfl rfl) (hc.st.cellL (List.mem_append_right _ (.head _)) rfl) ⟨[], ⟨rfl, rfl⟩, hc.st⟩) <| RunD.op (det _) tab2 3 (fun f' L' w' hc => Op1.neqS (hc.det (j := 1) rfl rfl rfl rfl) rfl ⟨[], ⟨rfl, rfl⟩, hc.st⟩) <| RunD.op (det _) tab2 4 (fun f' L' w' hc => Op1.move (v := .bool _) (hc.det (j := 2) rfl rfl rfl rfl) ⟨[], ⟨rfl, rfl⟩, hc.st⟩) <| RunD.splitD (j := 3) rfl (fun g3 => ?_) (fun g3 => ?_)
   · skip
     have hpos : 0 < t.text.length := List.length_pos_iff.2 g3
     refine RunD.take (det _) tab2 5 rfl (fun f' L' w' hc => (hc.det (j := 3) rfl rfl rfl rfl).trans (congrArg Value.bool (decide_eq_true g3))) (fun f' L' w' hc => Op1.fieldAddr fld30_1 (hc.old (v := .pointer (some ⟨_, _, none⟩)) rfl rfl rfl) ⟨[], ⟨rfl, rfl⟩, hc.st⟩) <| RunD.take (det _) tab2 6 rfl (fun f' L' w' hc => (hc.det (j := 3) rfl rfl rfl rfl).trans (congrArg Value.bool (decide_eq_true g3))) (fun f' L' w' hc => Op1.load1 (v := str _) ty9 rfl (hc.det (j := 4) rfl rfl rfl rfl) (hc.st.cellL (List.mem_append_right _ (.head _)) rfl) ⟨[], ⟨rfl, rfl⟩, hc.st⟩) <| RunD.take (det _) tab2 7 rfl (fun f' L' w' hc => (hc.det (j := 3) rfl rfl rfl rfl).trans (congrArg Value.bool (decide_eq_true g3))) (fun f' L' w' hc => Op1.indexS ty9 (hc.det (j := 5) rfl rfl rfl rfl) rfl (by omega) (by omega) ⟨[], ⟨rfl, rfl⟩, hc.st⟩) <| RunD.take (det _) tab2 8 rfl (fun f' L' w' hc => (hc.det (j := 3) rfl rfl rfl rfl).trans (congrArg Value.bool (decide_eq_true g3))) (fun f' L' w' hc => Op1.call1 (v1 := .int .u8 _) ent48 rfl (hc.det (j := 6) rfl rfl rfl rfl) ((R4lx_Letter _ _).mono fun v w hp => ⟨[], ⟨hp.1, rfl⟩, hc.st.keepc hp.2⟩)) <| RunD.op (det _) tab2 9 (fun f' L' w' hc => Op1.pickT (u := .bool _) (((hc.det (j := 3) rfl rfl rfl rfl)).trans (congrArg Value.bool (decide_eq_true g3))) (hc.det (j := 7) rfl rfl rfl rfl) ⟨[], ⟨rfl, rfl⟩, hc.st⟩) <| RunD.op (det _) tab2 10 (fun f' L' w' hc => Op1.move (v := .bool _) (hc.det (j := 8) rfl rfl rfl rfl) ⟨[], ⟨rfl, rfl⟩, hc.st⟩) <| RunD.split (j := 9) rfl (fun g4 => ?_) (fun g4 => ?_)
     · skip
       refine RunD.take (det _) tab2 11 rfl (fun f' L' w' hc => (hc.det (j := 9) rfl rfl rfl rfl).trans (congrArg Value.bool g4)) (fun f' L' w' hc => Op1.fieldAddr fld30_1 (hc.old (v := .pointer (some ⟨_, _, none⟩)) rfl rfl rfl) ⟨[], ⟨rfl, rfl⟩, hc.st⟩) <| RunD.take (det _) tab2 12 rfl (fun f' L' w' hc => (hc.det (j := 9) rfl rfl rfl rfl).trans (congrArg Value.bool g4)) (fun f' L' w' hc => Op1.load1 (v := str _) ty9 rfl (hc.det (j := 10) rfl rfl rfl rfl) (hc.st.cellL (List.mem_append_right _ (.head _)) rfl) ⟨[], ⟨rfl, rfl⟩, hc.st⟩) <| RunD.take (det _) tab2 13 rfl (fun f' L' w' hc => (hc.det (j := 9) rfl rfl rfl rfl).trans (congrArg Value.bool g4)) (fun f' L' w' hc => Op1.call2 (v1 := str _) (v2 := .int .i64 _) ent49 rfl (hc.det (j := 11) rfl rfl rfl rfl) rfl ((R4lx_Run t.text _ 0 rfl (Nat.zero_le _) _ (by omega)).mono fun v w hp => ⟨[], ⟨hp.1, rfl⟩, hc.st.keepc hp.2⟩)) <| RunD.take (det _) tab2 14 rfl (fun f' L' w' hc => (hc.det (j := 9) rfl rfl rfl rfl).trans (congrArg Value.bool g4)) (fun f' L' w' hc => Op1.fieldAddr fld30_1 (hc.old (v := .pointer (some ⟨_, _, none⟩)) rfl rfl rfl) ⟨[], ⟨rfl, rfl⟩, hc.st⟩) <| RunD.take (det _) tab2 15 rfl (fun f' L' w' hc => (hc.det (j := 9) rfl rfl rfl rfl).trans (congrArg Value.bool g4)) (fun f' L' w' hc => Op1.load1 (v := str _) ty9 rfl (hc.det (j := 13) rfl rfl rfl rfl) (hc.st.cellL (List.mem_append_right _ (.head _)) rfl) ⟨[], ⟨rfl, rfl⟩, hc.st⟩) <| RunD.fin followsMixed tab2 hst rfl (fun f5 w R8 hs6 hd7 hr9 hst => ?_)
       obtain ⟨h12_, r0⟩ := hd7 0 12 rfl rfl
       obtain ⟨h13_, r1⟩ := hd7 1 13 rfl rfl
       obtain ⟨h14_, r2⟩ := hd7 2 14 rfl rfl
       obtain ⟨h15_, r3⟩ := hd7 3 15 rfl rfl
       obtain ⟨h16_, r4⟩ := hd7 4 16 rfl rfl
       obtain ⟨h17_, r5⟩ := hd7 5 17 rfl rfl
       obtain ⟨h18_, r6⟩ := hd7 6 18 rfl rfl
       obtain ⟨h19_, r7⟩ := hd7 7 19 rfl rfl
       obtain ⟨h20_, r8⟩ := hd7 8 20 rfl rfl
       obtain ⟨h21_, r9⟩ := hd7 9 21 rfl rfl
       obtain ⟨h22_, r10⟩ := hd7 10 22 rfl rfl
       obtain ⟨h23_, r11⟩ := hd7 11 23 rfl rfl
       obtain ⟨h24_, r12⟩ := hd7 12 24 rfl rfl
       obtain ⟨h25_, r13⟩ := hd7 13 25 rfl rfl
       obtain ⟨h26_, r14⟩ := hd7 14 26 rfl rfl
       simp only [show List.range 15 = [0, 1, 2, 3, 4, 5, 6, 7, 8, 9, 10, 11, 12, 13, 14] from rfl, List.flatMap_cons, List.flatMap_nil, List.map_cons, List.map_nil, r0, r1, r2, r3, r4, r5, r6, r7, r8, r9, r10, r11, r12, r13, r14, List.nil_append, List.append_nil, List.cons_append] at hst
       refine RunL.slots (sl := [(1, .pointer (some ⟨_, _, none⟩)), (21, .bool _), (24, str _), (26, str _)]) ⟨(hs6 1 rfl).trans rfl, h21_, h24_, h26_, trivial⟩ ?_
       clear hs6 hd7 hr9 tab2
       refine TK (t := 21) rfl (congrArg Value.bool g4) <| Op1.eqlS rfl rfl <| CN <| Op1.pickT (u := .bool _) (congrArg Value.bool g4) rfl <| NL <| Run.forget [(1, .pointer (some ⟨_, _, none⟩)), (28, .bool _)] ⟨rfl, rfl, trivial⟩ fun f => run_cond_dec rfl (fun g10 => ?_) (fun g10 => ?_)
       · skip
         refine SR <| CN <| Op1.fieldAddr fld30_1 rfl <| CN <| Op1.load1 (v := str _) ty9 rfl rfl (hst.cellL (.head _) rfl) <| AS rfl <| AI rfl <| NL <| run_ret2 Tryd.func43 rfl (TP (v := str _) rfl) (TP (v := .int .i64 _) rfl) ?_
         exact .inl ⟨_, wr1_ok (by omega) g3 g4 g10, rfl, hst.pure⟩
       refine run_skip <| run_inBlock <| SR <| AS rfl <| AI rfl <| NL <| run_ret2 Tryd.func43 rfl (TP (v := str _) rfl) (TP (v := .int .i64 _) rfl) ?_
       exact .inr ⟨wr1_no (by omega) (fun q => g10 q.2.2), rfl, hst.pure⟩
     refine RunD.omit tab2 11 rfl rfl (fun f' L' w' hc => (hc.det (j := 9) rfl rfl rfl rfl).trans (congrArg Value.bool g4)) <| RunD.omit tab2 12 rfl rfl (fun f' L' w' hc => (hc.det (j := 9) rfl rfl rfl rfl).trans (congrArg Value.bool g4)) <| RunD.omit tab2 13 rfl rfl (fun f' L' w' hc => (hc.det (j := 9) rfl rfl rfl rfl).trans (congrArg Value.bool g4)) <| RunD.omit tab2 14 rfl rfl (fun f' L' w' hc => (hc.det (j := 9) rfl rfl rfl rfl).trans (congrArg Value.bool g4)) <| RunD.omit tab2 15 rfl rfl (fun f' L' w' hc => (hc.det (j := 9) rfl rfl rfl rfl).trans (congrArg Value.bool g4)) <| RunD.fin followsMixed tab2 hst rfl (fun f11 w R14 hs12 hd13 hr15 hst => ?_)
     obtain ⟨h12_, r0⟩ := hd13 0 12 rfl rfl
     obtain ⟨h13_, r1⟩ := hd13 1 13 rfl rfl
     obtain ⟨h14_, r2⟩ := hd13 2 14 rfl rfl
     obtain ⟨h15_, r3⟩ := hd13 3 15 rfl rfl
     obtain ⟨h16_, r4⟩ := hd13 4 16 rfl rfl
     obtain ⟨h17_, r5⟩ := hd13 5 17 rfl rfl
     obtain ⟨h18_, r6⟩ := hd13 6 18 rfl rfl
     obtain ⟨h19_, r7⟩ := hd13 7 19 rfl rfl
     obtain ⟨h20_, r8⟩ := hd13 8 20 rfl rfl
     obtain ⟨h21_, r9⟩ := hd13 9 21 rfl rfl
     obtain ⟨h22_, r10⟩ := hd13 10 22 rfl rfl
     obtain ⟨h23_, r11⟩ := hd13 11 23 rfl rfl
     obtain ⟨h24_, r12⟩ := hd13 12 24 rfl rfl
     obtain ⟨h25_, r13⟩ := hd13 13 25 rfl rfl
     obtain ⟨h26_, r14⟩ := hd13 14 26 rfl rfl
     simp only [show List.range 15 = [0, 1, 2, 3, 4, 5, 6, 7, 8, 9, 10, 11, 12, 13, 14] from rfl, List.flatMap_cons, List.flatMap_nil, List.map_cons, List.map_nil, r0, r1, r2, r3, r4, r5, r6, r7, r8, r9, r10, r11, r12, r13, r14, List.nil_append, List.append_nil, List.cons_append] at hst
     refine RunL.slots (sl := [(1, .pointer (some ⟨_, _, none⟩)), (21, .bool _), (24, _), (26, _)]) ⟨(hs12 1 rfl).trans rfl, h21_, h24_, h26_, trivial⟩ ?_
     clear hs12 hd13 hr15 tab2
     refine OM (t := 21) rfl (congrArg Value.bool g4) rfl <| CN <| Op1.pickF (u := .bool _) (congrArg Value.bool g4) rfl <| NL <| run_cond_false (congrArg Value.bool (rfl : false = _)) <| run_skip <| run_inBlock <| SR <| AS rfl <| AI rfl <| NL <| run_ret2 Tryd.func43 rfl (TP (v := str _) rfl) (TP (v := .int .i64 _) rfl) ?_
     exact .inr ⟨wr1_no (by omega) (fun q => f_no g4 q.2.1), rfl, hst.pure⟩
   refine RunD.omit tab2 5 rfl rfl (fun f' L' w' hc => (hc.det (j := 3) rfl rfl rfl rfl).trans (congrArg Value.bool (decide_eq_false g3))) <| RunD.omit tab2 6 rfl rfl (fun f' L' w' hc => (hc.det (j := 3) rfl rfl rfl rfl).trans (congrArg Value.bool (decide_eq_false g3))) <| RunD.omit tab2 7 rfl rfl (fun f' L' w' hc => (hc.det (j := 3) rfl rfl rfl rfl).trans (congrArg Value.bool (decide_eq_false g3))) <| RunD.omit tab2 8 rfl rfl (fun f' L' w' hc => (hc.det (j := 3) rfl rfl rfl rfl).trans (congrArg Value.bool (decide_eq_false g3))) <| RunD.op (det _) tab2 9 (fun f' L' w' hc => Op1.pickF (u := .bool _) (((hc.det (j := 3) rfl rfl rfl rfl)).trans (congrArg Value.bool (decide_eq_false g3))) rfl ⟨[], ⟨rfl, rfl⟩, hc.st⟩) <| RunD.op (det _) tab2 10 (fun f' L' w' hc => Op1.move (v := .bool _) (hc.det (j := 8) rfl rfl rfl rfl) ⟨[], ⟨rfl, rfl⟩, hc.st⟩) <| RunD.omit tab2 11 rfl rfl (fun f' L' w' hc => (hc.det (j := 9) rfl rfl rfl rfl).trans (congrArg Value.bool (rfl : false = _))) <| RunD.omit tab2 12 rfl rfl (fun f' L' w' hc => (hc.det (j := 9) rfl rfl rfl rfl).trans (congrArg Value.bool (rfl : false = _))) <| RunD.omit tab2 13 rfl rfl (fun f' L' w' hc => (hc.det (j := 9) rfl rfl rfl rfl).trans (congrArg Value.bool (rfl : false = _))) <| RunD.omit tab2 14 rfl rfl (fun f' L' w' hc => (hc.det (j := 9) rfl rfl rfl rfl).trans (congrArg Value.bool (rfl : false = _))) <| RunD.omit tab2 15 rfl rfl (fun f' L' w' hc => (hc.det (j := 9) rfl rfl rfl rfl).trans (congrArg Value.bool (rfl : false = _))) <| RunD.fin followsMixed tab2 hst rfl (fun f16 w R19 hs17 hd18 hr20 hst => ?_)
   obtain ⟨h12_, r0⟩ := hd18 0 12 rfl rfl
   obtain ⟨h13_, r1⟩ := hd18 1 13 rfl rfl
   obtain ⟨h14_, r2⟩ := hd18 2 14 rfl rfl
   obtain ⟨h15_, r3⟩ := hd18 3 15 rfl rfl
   obtain ⟨h16_, r4⟩ := hd18 4 16 rfl rfl
   obtain ⟨h17_, r5⟩ := hd18 5 17 rfl rfl
   obtain ⟨h18_, r6⟩ := hd18 6 18 rfl rfl
   obtain ⟨h19_, r7⟩ := hd18 7 19 rfl rfl
   obtain ⟨h20_, r8⟩ := hd18 8 20 rfl rfl
   obtain ⟨h21_, r9⟩ := hd18 9 21 rfl rfl
   obtain ⟨h22_, r10⟩ := hd18 10 22 rfl rfl
   obtain ⟨h23_, r11⟩ := hd18 11 23 rfl rfl
   obtain ⟨h24_, r12⟩ := hd18 12 24 rfl rfl
   obtain ⟨h25_, r13⟩ := hd18 13 25 rfl rfl
   obtain ⟨h26_, r14⟩ := hd18 14 26 rfl rfl
   simp only [show List.range 15 = [0, 1, 2, 3, 4, 5, 6, 7, 8, 9, 10, 11, 12, 13, 14] from rfl, List.flatMap_cons, List.flatMap_nil, List.map_cons, List.map_nil, r0, r1, r2, r3, r4, r5, r6, r7, r8, r9, r10, r11, r12, r13, r14, List.nil_append, List.append_nil, List.cons_append] at hst
   refine RunL.slots (sl := [(1, .pointer (some ⟨_, _, none⟩)), (21, .bool _), (24, _), (26, _)]) ⟨(hs17 1 rfl).trans rfl, h21_, h24_, h26_, trivial⟩ ?_
   clear hs17 hd18 hr20 tab2
   refine OM (t := 21) rfl (congrArg Value.bool (rfl : false = _)) rfl <| CN <| Op1.pickF (u := .bool _) (congrArg Value.bool (rfl : false = _)) rfl <| NL <| run_cond_false (congrArg Value.bool (rfl : false = _)) <| run_skip <| run_inBlock <| SR <| AS rfl <| AI rfl <| NL <| run_ret2 Tryd.func43 rfl (TP (v := str _) rfl) (TP (v := .int .i64 _) rfl) ?_
   exact .inr ⟨wr1_no (by omega) (fun q => g3 q.1), rfl, hst.pure⟩
 refine SR <| CN <| Op1.eql rfl rfl <| AB rfl <| NL <| run_cond_dec rfl (fun g21 => ?_) (fun g21 => ?_)
 · skip
   refine SR <| CN <| Op1.fieldAddr fld30_1 rfl <| CN <| Op1.load1 (v := str _) ty9 rfl rfl (hst.cellL (.head _) rfl) <| CN <| Op1.call1 (v1 := str _) ent34 rfl rfl <| Ret.det (R4lx_Plain t.text _ (by omega)) hst fun w hst => CN <| Op1.move (v := .tuple #[.int .u64 _, .bool _]) rfl <| CN <| Op1.extract (v := .int .u64 _) rfl rfl <| CN <| Op1.extract (v := .bool _) rfl rfl <| CN <| Op1.assign (v := .int .u64 _) rfl <| AB rfl <| NSR <| MB rfl <| NL ?_
   refine run_cond_split rfl (fun g22 => ?_) (fun g22 => ?_)
   · skip
     refine SR <| CN <| Op1.fieldAddr fld30_1 rfl <| CN <| Op1.load1 (v := str _) ty9 rfl rfl (hst.cellL (.head _) rfl) <| CN <| Op1.addS rfl rfl (by first | omega | (simp only [List.length_cons, List.length_nil, List.length_append]; omega) | (simp; omega)) <| AS rfl <| AI rfl <| NL <| run_ret2 Tryd.func43 rfl (TP (v := str _) rfl) (TP (v := .int .i64 _) rfl) ?_
     exact .inl ⟨_, wr2_ok (by omega) g22, rfl, hst.pure⟩
   refine run_skip <| run_inBlock <| SR <| AS rfl <| AI rfl <| NL <| run_ret2 Tryd.func43 rfl (TP (v := str _) rfl) (TP (v := .int .i64 _) rfl) ?_
   exact .inr ⟨wr2_no (by omega) (f_no g22), rfl, hst.pure⟩
 refine SR <| CN <| Op1.eql rfl rfl <| AB rfl <| NL <| run_cond_dec rfl (fun g23 => ?_) (fun g23 => ?_)
 · skip
   refine SR <| CN <| Op1.fieldAddr fld30_1 rfl <| CN <| Op1.load1 (v := str _) ty9 rfl rfl (hst.cellL (.head _) rfl) <| CN <| Op1.call1 (v1 := str _) ent18 rfl rfl <| Ret.det (R4lx_Number t.text _ (by omega)) hst fun w hst => CN <| Op1.move (v := .tuple #[.int .u32 _, .int .i64 _]) rfl <| CN <| Op1.extract (v := .int .u32 _) rfl rfl <| CN <| Op1.extract (v := .int .i64 _) rfl rfl <| AU rfl <| AI rfl <| NL <| Run.forget [(1, .pointer (some ⟨_, _, none⟩)), (7, .int .i64 _)] ⟨rfl, rfl, trivial⟩ fun f => SR <| MI rfl ?_
   refine CN <| Op1.eql rfl rfl <| NL <| run_cond_dec rfl (fun g24 => ?_) (fun g24 => ?_)
   · skip
     refine SR <| CN <| Op1.fieldAddr fld30_1 rfl <| CN <| Op1.load1 (v := str _) ty9 rfl rfl (hst.cellL (.head _) rfl) <| AS rfl <| AI rfl <| NL <| run_ret2 Tryd.func43 rfl (TP (v := str _) rfl) (TP (v := .int .i64 _) rfl) ?_
     exact .inl ⟨_, wr3_ok (by omega) (by omega), rfl, hst.pure⟩
   refine run_skip <| run_inBlock <| SR <| AS rfl <| AI rfl <| NL <| run_ret2 Tryd.func43 rfl (TP (v := str _) rfl) (TP (v := .int .i64 _) rfl) ?_
   exact .inr ⟨wr3_no (by omega) (by omega), rfl, hst.pure⟩
 refine SR <| CN <| Op1.eql rfl rfl <| AB rfl <| NL <| run_cond_dec rfl (fun g25 => ?_) (fun g25 => ?_)
 · skip
   refine SR <| CN <| Op1.fieldAddr fld30_1 rfl <| CN <| Op1.load1 (v := str _) ty9 rfl rfl (hst.cellL (.head _) rfl) <| CN <| Op1.call1 (v1 := str _) ent21 rfl rfl <| Ret.det (R4lx_rQuote t.text _ hl) hst fun w hst => AS rfl <| AI rfl <| NL <| run_ret2 Tryd.func43 rfl (TP (v := str _) rfl) (TP (v := .int .i64 _) rfl) ?_
   exact .inl ⟨_, wr4_ok (by omega), rfl, hst.pure⟩
 refine SR <| CN <| Op1.eql rfl rfl <| AB rfl <| NL <| run_cond_dec rfl (fun g26 => ?_) (fun g26 => ?_)
 · skip
   refine SR <| CN <| Op1.fieldAddr fld30_1 rfl <| CN <| Op1.load1 (v := str _) ty9 rfl rfl (hst.cellL (.head _) rfl) <| CN <| Op1.eqlS rfl rfl <| NL <| run_cond_dec rfl (fun g27 => ?_) (fun g27 => ?_)
   · skip
     refine SR <| AS rfl <| AI rfl <| NL <| run_ret2 Tryd.func43 rfl (TP (v := str _) rfl) (TP (v := .int .i64 _) rfl) ?_
     exact .inl ⟨_, wr5_ok (by omega) g27, rfl, hst.pure⟩
   refine run_skip <| run_inBlock <| SR <| AS rfl <| AI rfl <| NL <| run_ret2 Tryd.func43 rfl (TP (v := str _) rfl) (TP (v := .int .i64 _) rfl) ?_
   exact .inr ⟨wr5_no (by omega) g27, rfl, hst.pure⟩
 refine run_skip <| run_inBlock <| SR <| AS rfl <| AI rfl <| NL <| run_ret2 Tryd.func43 rfl (TP (v := str _) rfl) (TP (v := .int .i64 _) rfl) ?_
 exact .inr ⟨wr_no (by omega) (by omega) (by omega) (by omega) (by omega), rfl, hst.pure⟩
theorem R4lx_rWrite (l : List TokL) (ao : Option Addr) (cp : Nat) (w : World) (hA0 : (Res.rs ao l.length 3 (l.flatMap tokC)).holds w) (hl : l.length ≤ 1099511627776) (hw : wsz l ≤ 1099511627776) : Ret Tryd.prog 22 #[.slice ao l.length cp] w (fun v w' => v = .tuple #[str (wrS l), .int .i64 (wrE l)] ∧ St w NoM [] [] w') := by
 refine Ret.enter (args := [.slice ao l.length cp]) Tryd.func22 rfl rfl rfl ?_
 have hst : St w NoM [] [Res.rs ao l.length 3 (l.flatMap tokC)] w := St.init_D hA0
 refine SR <| AS rfl <| AI rfl <| NSR <| AS rfl <| NL <| SQ <| SR <| AI rfl <| NL <| run_block ?_
 refine run_loop <| Run.indW [(0, .slice _ _ _)] ⟨rfl, trivial⟩ (fun (qq : Nat × List Tx) => [(4, str (Lib.join qq.2 [32])), (5, .int .i64 (qq.1 : Int))]) (fun (qq : Nat × List Tx) => []) (fun (qq : Nat × List Tx) => wrI l qq.1 qq.2) (fun (qq : Nat × List Tx) => l.length - qq.1) ((0, [])) hst (wrI_start l) ⟨rfl, rfl, trivial⟩ ?_
 intro ⟨i, o⟩ f w hst hJ ih1
 replace hst : St _ _ ([] ++ []) _ _ := hst
 replace hJ : wrI l i o := hJ
 refine Run.slots (sl := [(4, str (Lib.join o [32])), (5, .int .i64 (i : Int))]) ⟨rfl, rfl, trivial⟩ ?_
 have hjl := join_len o
 have hj1 := hJ.1
 have hj3 := hJ.2.2.1
 refine SQ <| SR <| MI rfl <| ML rfl <| CN <| Op1.lenSl (rest := []) ty22 rfl <| CN <| Op1.lss rfl rfl <| NL <| run_cond_dec rfl (fun g2 => ?_) (fun g2 => ?_)
 · skip
   refine run_skip <| SQ <| run_block <| SR <| ML rfl <| MI rfl <| CN <| Op1.indexRs ty22 ty30 (hst.hD _ (.head _)) rfl rfl (by omega) (by omega) <| CN (Op1.loadA (vs := [.int .u8 _, str _, .int .i64 _]) ty30 rfl rfl rfl (Res.rs2_cells (m := 3) (hst.hD _ (.head _)) _ (flat_seg (g := tokC) (d := tok0) tokC_len _ _ (by omega))) ?_)
   have hzt := wsz_text hJ (by omega)
   have htx : ((l.getD ((i : Int).toNat) tok0).text).length = ((l.getD i tok0).text).length := rfl
   refine CN (Op1.call1 (v1 := .agg #[.int .u8 _, str _, .int .i64 _]) ent43 rfl rfl ((R4lx_One (l.getD ((i : Int).toNat) tok0) _ (by omega)).mono fun v w hp => ?_))
   rcases hp with ⟨x, hx, rfl, hp⟩ | ⟨hx, rfl, hp⟩
   · skip
     replace hst := hst.keepc hp
     clear hp
     have hxl := wr_len hx
     refine CN <| Op1.move (v := .tuple #[str _, .int .i64 _]) rfl <| CN <| Op1.extract (v := str _) rfl rfl <| CN <| Op1.extract (v := .int .i64 _) rfl rfl <| AS rfl <| AI rfl <| NL <| SQ <| SR <| MI rfl <| CN <| Op1.neq rfl rfl <| NL <| run_cond_dec rfl (fun g3 => ?_) (fun g3 => ?_)
     · skip
       exfalso
       exact g3 rfl
     refine run_skip <| SQ <| SR <| MI rfl <| CN <| Op1.gtr rfl rfl <| NL <| run_cond_dec rfl (fun g4 => ?_) (fun g4 => ?_)
     · skip
       refine RG <| MS rfl <| CN <| Op1.addS rfl rfl (by first | omega | (simp only [List.length_cons, List.length_nil, List.length_append]; omega) | (simp; omega)) <| AS rfl <| NL <| Run.forget [(0, .slice _ _ _), (4, str _), (5, .int .i64 _), (6, str _)] ⟨rfl, rfl, rfl, rfl, trivial⟩ fun f => RG <| MS rfl <| MS rfl <| CN <| Op1.addS rfl rfl (by first | omega | (simp only [List.length_cons, List.length_nil, List.length_append]; omega) | (simp; omega)) <| AS rfl <| NL <| run_inBlock <| RG <| MI rfl ?_
       refine CN <| Op1.addN rfl rfl rfl (wrap_i64 (by omega) (by omega)) <| AI rfl <| NL <| run_inLoop ?_
       exact ih1 ((i + 1, o ++ [x])) _ w ((by (try dsimp only); omega)) hst (wrI_step hJ (by omega) hx) ⟨rfl, trivial⟩ ⟨(str_inj (by (try dsimp only); rw [join_snoc _ _ (fun e => by have hz := hJ.2.1; rw [e] at hz; simp at hz; omega)]; simp)), (congrArg (Value.int .i64) (by (try dsimp only); omega)), trivial⟩
     refine run_skip <| RG <| MS rfl <| MS rfl <| CN <| Op1.addS rfl rfl (by first | omega | (simp only [List.length_cons, List.length_nil, List.length_append]; omega) | (simp; omega)) <| AS rfl <| NL <| run_inBlock <| Run.forget [(0, .slice _ _ _), (4, str _), (5, .int .i64 _)] ⟨rfl, rfl, rfl, trivial⟩ fun f => RG <| MI rfl <| CN <| Op1.addN rfl rfl rfl (wrap_i64 (by omega) (by omega)) <| AI rfl <| NL <| run_inLoop ?_
     obtain rfl : o = [] := List.length_eq_zero_iff.1 (by have hz := hJ.2.1; omega)
     exact ih1 ((i + 1, [] ++ [x])) _ w ((by (try dsimp only); omega)) hst (wrI_step hJ (by omega) hx) ⟨rfl, trivial⟩ ⟨(str_inj (by (try dsimp only); rw [List.nil_append, join_one', join_nil']; rfl)), (congrArg (Value.int .i64) (by (try dsimp only); omega)), trivial⟩
   · skip
     replace hst := hst.keepc hp
     clear hp
     refine CN <| Op1.move (v := .tuple #[str _, .int .i64 _]) rfl <| CN <| Op1.extract (v := str _) rfl rfl <| CN <| Op1.extract (v := .int .i64 _) rfl rfl <| AS rfl <| AI rfl <| NL <| SQ <| SR <| MI rfl <| CN <| Op1.neq rfl rfl <| NL <| run_cond_dec rfl (fun g5 => ?_) (fun g5 => ?_)
     · skip
       refine SR <| MI rfl <| AS rfl <| AI rfl <| NL <| run_ret2 Tryd.func22 rfl (TP (v := str _) rfl) (TP (v := .int .i64 _) rfl) ?_
       have hwf := wrSE_none (wrI_no hJ (by omega) hx)
       rw [hwf.1, hwf.2]
       exact ⟨rfl, hst.pure⟩
     exfalso
     exact g5 (by decide)
 refine run_exit (id := 0) rfl <| SR <| MS rfl <| AS rfl <| AI rfl <| NL <| run_ret2 Tryd.func22 rfl (TP (v := str _) rfl) (TP (v := .int .i64 _) rfl) ?_
 have hwf := wrSE_some (wrI_end hJ (by omega))
 rw [hwf.1, hwf.2]
 exact ⟨rfl, hst.pure⟩
end Go.SK
namespace Go.SK
open Go Go.Proofs
theorem ent22 : Enters Tryd.prog 22 := ⟨Tryd.f22, _, Tryd.func22, by kernel_rfl, rfl⟩
end Go.SK
namespace Go.SK
open Go Go.Proofs
open Go.RowKit
theorem R4law_LexWrites (l : List TokL) (ao : Option Addr) (cp : Nat) (w : World) (hG : LxG.holds w) (hA0 : (Res.rs ao l.length 3 (l.flatMap tokC)).holds w) (hl : l.length ≤ 1099511627776) (hw : wsz l ≤ 1099511627776) : Ret Tryd.prog 6 #[.slice ao l.length cp] w (fun v w' => v = .bool true ∧ St w NoM [] [] w') := by
 refine Ret.enter (args := [.slice ao l.length cp]) Tryd.func6 rfl rfl rfl ?_
 have hst : St w NoM [] [LxG, Res.rs ao l.length 3 (l.flatMap tokC)] w := St.init_Ds (by simp only [List.forall_mem_cons]; exact ⟨hG, hA0, fun _ h => absurd h List.not_mem_nil⟩)
 refine SR <| AB rfl <| NSR <| ML rfl <| CN <| Op1.lenSl (rest := []) ty22 rfl <| CN (Op1.makeSlV hst ty22 ty30 rfl rfl rfl (by decide) (by omega) (by omega) fun w bC hst => ?_)
 rw [cpG_zero (g := tokC) (d := tok0) (ez := [.int .u8 0, str [], .int .i64 0]) rfl l] at hst
 refine AL rfl <| NL <| SQ <| SR <| AI rfl <| NL <| run_block <| run_loop <| Run.indW [(0, .slice _ _ _), (3, .slice _ _ _)] ⟨rfl, rfl, trivial⟩ (fun (i : Nat) => [(4, .int .i64 (i : Int))]) (fun (i : Nat) => [Res.sl (some ⟨bC, 0, none⟩) l.length l.length 30 3 ((cpG tok0 l l.length i).flatMap tokC)]) (fun (i : Nat) => i ≤ l.length) (fun (i : Nat) => l.length - i) (0) hst (Nat.zero_le _) ⟨rfl, trivial⟩ ?_
 intro i f w hst hJ ih1
 refine SQ <| SR <| MI rfl <| ML rfl <| CN <| Op1.lenSl (rest := []) ty22 rfl <| CN <| Op1.lss rfl rfl <| NL <| run_cond_dec rfl (fun g2 => ?_) (fun g2 => ?_)
 · skip
   refine run_skip <| SQ <| run_block <| RG <| ML rfl <| MI rfl <| ML rfl <| MI rfl <| CN <| Op1.indexRs ty22 ty30 (hst.hD _ (.tail _ (.head _))) rfl rfl (by omega) (by omega) <| CN <| Op1.loadA (vs := [.int .u8 _, str _, .int .i64 _]) ty30 rfl rfl rfl (Res.rs2_cells (m := 3) (hst.hD _ (.tail _ (.head _))) _ (flat_seg (g := tokC) (d := tok0) tokC_len _ _ (by omega))) <| CN <| Op1.indexSl ty22 ty30 rfl rfl (by omega) (by omega) <| CN <| Op1.storeSl (v := .agg #[.int .u8 _, str _, .int .i64 _]) hst ty30 rfl rfl rfl rfl rfl (.here) (by simp only [List.length_cons, List.length_nil]; omega) fun w hst => NL <| run_inBlock <| RG ?_
   refine MI rfl <| CN <| Op1.addN rfl rfl rfl (wrap_i64 (by omega) (by omega)) <| AI rfl <| NL <| run_inLoop ?_
   exact ih1 (i + 1) _ w (by omega) (by (try dsimp only); rw [← cpG_step (g := tokC) (es := 3) tokC_len (i := i) (x := tokC (l.getD i tok0)) (by omega) rfl]; exact hst) (by omega) ⟨rfl, rfl, trivial⟩ ⟨(congrArg (Value.int .i64) (by omega)), trivial⟩
 obtain rfl : i = l.length := by omega
 rw [cpG_all] at hst
 refine run_exit (id := 0) rfl <| SR <| ML rfl <| CN <| Op1.call1 (v1 := .slice _ _ _) ent22 rfl rfl <| Ret.det (R4lx_rWrite l _ _ _ (hst.hD _ (.tail _ (.head _))) hl hw) hst fun w hst => CN <| Op1.move (v := .tuple #[str _, .int .i64 _]) rfl <| CN <| Op1.extract (v := str _) rfl rfl <| CN <| Op1.extract (v := .int .i64 _) rfl rfl <| AS rfl <| AI rfl <| NSR <| ML rfl <| CN <| Op1.call1 (v1 := .slice _ _ _) ent23 rfl rfl <| Ret.det (R4lx_lWrite l _ _ _ (hst.hD _ (.head _)) (Res.rs_of_sl (hst.hL _ (.head _))) hl hw) hst fun w hst => ?_
 refine CN <| Op1.move (v := .tuple #[str _, .int .i64 _]) rfl <| CN <| Op1.extract (v := str _) rfl rfl <| CN <| Op1.extract (v := .int .i64 _) rfl rfl <| AS rfl <| AI rfl <| NSR <| MS rfl <| MS rfl <| CN <| Op1.eqlS rfl rfl <| MB rfl <| RunL.splitD (d := 38) rfl (fun g3 => ?_) (fun g3 => ?_)
 · skip
   refine TK (t := 38) rfl (congrArg Value.bool (decide_eq_true g3)) <| Op1.move (v := .int .i64 _) rfl <| TK (t := 38) rfl (congrArg Value.bool (decide_eq_true g3)) <| Op1.move (v := .int .i64 _) rfl <| TK (t := 38) rfl (congrArg Value.bool (decide_eq_true g3)) <| Op1.eql rfl rfl <| CN <| Op1.pickT (u := .bool _) (congrArg Value.bool (decide_eq_true g3)) rfl <| MB rfl <| RunL.splitD (d := 43) rfl (fun g4 => ?_) (fun g4 => ?_)
   · skip
     refine TK (t := 43) rfl (congrArg Value.bool (decide_eq_true g4)) <| Op1.move (v := .slice _ _ _) rfl <| TK (t := 43) rfl (congrArg Value.bool (decide_eq_true g4)) <| Op1.move (v := .slice _ _ _) rfl <| TK (t := 43) rfl (congrArg Value.bool (decide_eq_true g4)) (Op1.call2 (v1 := .slice _ _ _) (v2 := .slice _ _ _) ent16 rfl rfl rfl ((R4lx_tokens _ _ _ _ _ _ _ (Res.rs_of_sl (hst.hL _ (.head _))) (hst.hD _ (.tail _ (.head _))) (by omega)).mono fun v w hp => ?_))
     obtain ⟨rfl, hp⟩ := hp
     replace hst := hst.keepc hp
     clear hp
     refine CN <| Op1.pickT (u := .bool _) (congrArg Value.bool (decide_eq_true g4)) rfl <| MB rfl <| RunL.splitD (d := 48) rfl (fun g5 => ?_) (fun g5 => ?_)
     · skip
       refine TK (t := 48) rfl (congrArg Value.bool (decide_eq_true g5)) (Op1.call0  ent17 rfl  ((R4lx_awake _ (hst.hD _ (.head _))).mono fun v w hp => ?_))
       obtain ⟨rfl, hp⟩ := hp
       replace hst := hst.keepc hp
       clear hp
       refine CN <| Op1.pickT (u := .bool _) (congrArg Value.bool (decide_eq_true g5)) rfl <| AB rfl <| NL <| run_ret1 Tryd.func6 rfl (TP (v := .bool _) rfl) ?_
       exact ⟨rfl, hst.pure⟩
     exfalso
     exact g5 rfl
   exfalso
   exact g4 rfl
 exfalso
 exact g3 rfl
end Go.SK
