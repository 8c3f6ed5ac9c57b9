/-
  Steps of functions, plain law, and walks of functions: what the laws rest on.
-/
import Derived.Test.YtalnjboddfedjaaDoorSkG0b
import Derived.Test.YtalnjboddfedjaaDoorSkG1a
import Derived.Test.YtalnjboddfedjaaDoorSkG2a
import Derived.Test.YtalnjboddfedjaaDoorSkG6a
import Derived.Test.YtalnjboddfedjaaDoorSkG7a
import Derived.Test.YtalnjboddfedjaaDoorSkG9a
import Derived.Test.YtalnjboddfedjaaDoorSkG14a
import Derived.Test.YtalnjboddfedjaaDoorSkG15a
import Derived.Test.YtalnjboddfedjaaDoorSkG16a
set_option linter.unusedVariables false
set_option linter.unusedSimpArgs false
set_option linter.unusedSectionVars false
namespace Go.SK
open Go.RowKit
theorem setSeg_length (l : List Value) (off : Nat) (vs : List Value) : (setSeg l off vs).length = l.length := by
  induction vs generalizing l off with
  | nil => rfl
  | cons v vs ih => simp [setSeg, ih]
end Go.SK
namespace Go.SK
open Go.RowKit
section
variable {P : Program} {ty : TypeId} {ρ : Operand → Value} {w0 w : World} {C : Value → World → Prop} {M : Nat → Prop} {L L' D : List Res}
variable {T e : TypeId} {de : TypeDesc} {d : TypeDesc} {sz bytes es eb : Nat} {zs ez : List Value} {ao : Option Addr} {n cap : Nat} {xs : List Value}
theorem setSeg_take (n : Nat) : ∀ (vs l : List Value) (off : Nat), (setSeg l off vs).take n = setSeg (l.take n) off vs
  | [], l, off => rfl
  | v :: vs, l, off => by
    simp only [setSeg]
    rw [setSeg_take n vs _ (off + 1), List.take_set]
theorem Op1.storeSl {x y : Operand} {b off : Nat} {v : Value} {vs : List Value} (hst : St w0 M L D w) (hT : TyF P T d sz bytes zs) (hx : ρ x = .pointer (some ⟨b, off, none⟩)) (hy : ρ y = v) (hv : v.cells = vs.toArray)
    (hn : vs.length = sz) (hok : vs.all okCell = true) (hs : Sel (Res.sl (some ⟨b, 0, none⟩) n cap e es xs) (Res.sl (some ⟨b, 0, none⟩) n cap e es (setSeg xs off vs)) L L') (hl : off + vs.length ≤ n * es)
    (h : ∀ w' : World, St w0 M L' D w' → C undef w') : Op1 P (.store T x y) ty ρ w C := by
  have hh : w.ownsRow 0 e es (.slice (some ⟨b, 0, none⟩) n cap) n xs := hst.hL _ hs.mem
  have hlen := hh.1
  rcases hh.2 with ⟨hv0, _⟩ | ⟨g, cc, cur, hv0, hb0, hg, hnc, hcm, hcs, htake⟩
  · cases hv0
  · cases hv0
    have hcur : n * es ≤ cur.size := by rw [hcs]; exact Nat.mul_le_mul_right _ hnc
    obtain ⟨w', hr, hb', hk⟩ := run_storeVar (P := P) (T' := e) (off := off) (l := cur.toList) hT hv hn hok (by simpa using hg) (.inr (by simp only [Array.length_toList]; omega))
    refine Inv.skip (w' := w') ?_ (h w' (hst.upd hs ?_ ?_ (fun c hc => .inl hc)))
    · simp [execOp, Instr.storeAt, hx, hy, Instr.sureAddr, hr]
    · exact hk.mono fun c _ hc => by subst hc; rfl
    · refine ⟨by rw [setSeg_length]; exact hlen, .inr ⟨_, _, _, rfl, Nat.zero_le _, hb', hnc, hcm, ?_, ?_⟩⟩
      · simp [setSeg_length, hcs]
      · simp only [List.toList_toArray]
        rw [setSeg_take, htake]
end
end Go.SK
namespace Go.SK
open Go.RowKit Go.ChangeShapes Go.WideShapes Go.ChangeAt
theorem setSeg_app (l m : List Value) : ∀ (vs : List Value) (i : Nat), setSeg (l ++ m) (l.length + i) vs = l ++ setSeg m i vs
  | [], i => rfl
  | v :: vs, i => by
    simp only [setSeg]
    rw [List.set_append_right _ _ (by omega), show l.length + i - l.length = i by omega, Nat.add_assoc, setSeg_app l _ vs (i + 1)]
theorem setSeg_front : ∀ (vs l m : List Value), l.length = vs.length → setSeg (l ++ m) 0 vs = vs ++ m
  | [], l, m, h => by rw [List.length_eq_zero_iff.1 h]; rfl
  | v :: vs, [], m, h => by cases h
  | v :: vs, x :: l, m, h => by
    simp only [List.cons_append, setSeg, List.set_cons_zero, Nat.zero_add]
    rw [show (1 : Nat) = 0 + 1 from rfl, setSeg_cons, setSeg_front vs l m (by simpa using h)]
theorem setSeg_flat {α : Type} {g : α → List Value} {es : Nat} (hg : ∀ a, (g a).length = es) (x : α) : ∀ (l : List α) (i : Nat), i < l.length → setSeg (l.flatMap g) (i * es) (g x) = (l.set i x).flatMap g
  | [], i, h => by simp at h
  | a :: l, 0, _ => by
    rw [Nat.zero_mul, List.flatMap_cons, setSeg_front _ _ _ (by rw [hg, hg]), List.set_cons_zero, List.flatMap_cons]
  | a :: l, i + 1, h => by
    rw [List.flatMap_cons, show (i + 1) * es = (g a).length + i * es by rw [hg, Nat.add_mul]; omega, setSeg_app, setSeg_flat hg x l i (by simpa using h), List.set_cons_succ, List.flatMap_cons]
end Go.SK
namespace Go.SK
theorem run_no {c : UInt8} (h : letB c = false) (h2 : digB c = false) : ¬ runB c = true := by unfold runB; rw [h, h2]; decide
end Go.SK
namespace Go.SK
open Go Go.Proofs
open Go.RowKit
theorem R4lx_Letter (c : UInt8) (w : World) : Ret Tryd.prog 48 #[.int .u8 (c.toNat : Int)] w (fun v w' => v = .bool (letB c) ∧ St w NoM [] [] w') := by
 refine Ret.enter (args := [.int .u8 (c.toNat : Int)]) Tryd.func48 rfl rfl rfl ?_
 have hst := St.init w
 refine SR <| AB rfl <| NSR <| MC rfl <| CN <| Op1.geq rfl rfl <| MB rfl <| RunL.splitD (d := 5) rfl (fun g1 => ?_) (fun g1 => ?_)
 · skip
   refine TK (t := 5) rfl (congrArg Value.bool (decide_eq_true g1)) <| Op1.move (v := .int .u8 _) rfl <| TK (t := 5) rfl (congrArg Value.bool (decide_eq_true g1)) <| Op1.leq rfl rfl <| CN <| Op1.pickT (u := .bool _) (congrArg Value.bool (decide_eq_true g1)) rfl <| MB rfl <| RunL.splitD (d := 9) rfl (fun g2 => ?_) (fun g2 => ?_)
   · skip
     refine OM (t := 9) rfl (congrArg Value.bool (decide_eq_true g2)) rfl <| OM (t := 9) rfl (congrArg Value.bool (decide_eq_true g2)) rfl <| OM (t := 9) rfl (congrArg Value.bool (decide_eq_true g2)) rfl <| RunL.omitU (t := 12) rfl rfl <| RunL.omitU (t := 12) rfl rfl <| OM (t := 9) rfl (congrArg Value.bool (decide_eq_true g2)) rfl <| CN <| Op1.pickT (u := .bool _) (congrArg Value.bool (decide_eq_true g2)) rfl <| MB rfl <| OM (t := 17) rfl (congrArg Value.bool (rfl : true = _)) rfl <| OM (t := 17) rfl (congrArg Value.bool (rfl : true = _)) rfl <| CN <| Op1.pickT (u := .bool _) (congrArg Value.bool (rfl : true = _)) rfl <| AB rfl <| NL <| run_ret1 Tryd.func48 rfl (TP (v := .bool _) rfl) <| ⟨congrArg Value.bool ?_, hst.pure⟩
     unfold letB
     first | (rw [decide_eq_decide]; omega) | exact (decide_eq_false (by omega)).symm | exact (decide_eq_true (by omega)).symm
   refine TK (t := 9) rfl (congrArg Value.bool (decide_eq_false g2)) <| Op1.move (v := .int .u8 _) rfl <| TK (t := 9) rfl (congrArg Value.bool (decide_eq_false g2)) <| Op1.geq rfl rfl <| TK (t := 9) rfl (congrArg Value.bool (decide_eq_false g2)) <| Op1.move (v := .bool _) rfl <| RunL.splitD (d := 12) rfl (fun g3 => ?_) (fun g3 => ?_)
   · skip
     refine TK (t := 12) rfl (congrArg Value.bool (decide_eq_true g3)) <| Op1.move (v := .int .u8 _) rfl <| TK (t := 12) rfl (congrArg Value.bool (decide_eq_true g3)) <| Op1.leq rfl rfl <| TK (t := 9) rfl (congrArg Value.bool (decide_eq_false g2)) <| Op1.pickT (u := .bool _) (congrArg Value.bool (decide_eq_true g3)) rfl <| CN <| Op1.pickF (u := .bool _) (congrArg Value.bool (decide_eq_false g2)) rfl <| MB rfl <| RunL.splitD (d := 17) rfl (fun g4 => ?_) (fun g4 => ?_)
     · skip
       refine OM (t := 17) rfl (congrArg Value.bool (decide_eq_true g4)) rfl <| OM (t := 17) rfl (congrArg Value.bool (decide_eq_true g4)) rfl <| CN <| Op1.pickT (u := .bool _) (congrArg Value.bool (decide_eq_true g4)) rfl <| AB rfl <| NL <| run_ret1 Tryd.func48 rfl (TP (v := .bool _) rfl) <| ⟨congrArg Value.bool ?_, hst.pure⟩
       unfold letB
       first | (rw [decide_eq_decide]; omega) | exact (decide_eq_false (by omega)).symm | exact (decide_eq_true (by omega)).symm
     refine TK (t := 17) rfl (congrArg Value.bool (decide_eq_false g4)) <| Op1.move (v := .int .u8 _) rfl <| TK (t := 17) rfl (congrArg Value.bool (decide_eq_false g4)) <| Op1.eql rfl rfl <| CN <| Op1.pickF (u := .bool _) (congrArg Value.bool (decide_eq_false g4)) rfl <| AB rfl <| NL <| run_ret1 Tryd.func48 rfl (TP (v := .bool _) rfl) <| ⟨congrArg Value.bool ?_, hst.pure⟩
     unfold letB
     first | (rw [decide_eq_decide]; omega) | exact (decide_eq_false (by omega)).symm | exact (decide_eq_true (by omega)).symm
   refine OM (t := 12) rfl (congrArg Value.bool (decide_eq_false g3)) rfl <| OM (t := 12) rfl (congrArg Value.bool (decide_eq_false g3)) rfl <| TK (t := 9) rfl (congrArg Value.bool (decide_eq_false g2)) <| Op1.pickF (u := .bool _) (congrArg Value.bool (decide_eq_false g3)) rfl <| CN <| Op1.pickF (u := .bool _) (congrArg Value.bool (decide_eq_false g2)) rfl <| MB rfl <| TK (t := 17) rfl (congrArg Value.bool (rfl : false = _)) <| Op1.move (v := .int .u8 _) rfl <| TK (t := 17) rfl (congrArg Value.bool (rfl : false = _)) <| Op1.eql rfl rfl <| CN <| Op1.pickF (u := .bool _) (congrArg Value.bool (rfl : false = _)) rfl <| AB rfl <| NL <| run_ret1 Tryd.func48 rfl (TP (v := .bool _) rfl) <| ⟨congrArg Value.bool ?_, hst.pure⟩
   unfold letB
   first | (rw [decide_eq_decide]; omega) | exact (decide_eq_false (by omega)).symm | exact (decide_eq_true (by omega)).symm
 refine OM (t := 5) rfl (congrArg Value.bool (decide_eq_false g1)) rfl <| OM (t := 5) rfl (congrArg Value.bool (decide_eq_false g1)) rfl <| CN <| Op1.pickF (u := .bool _) (congrArg Value.bool (decide_eq_false g1)) rfl <| MB rfl <| TK (t := 9) rfl (congrArg Value.bool (rfl : false = _)) <| Op1.move (v := .int .u8 _) rfl <| TK (t := 9) rfl (congrArg Value.bool (rfl : false = _)) <| Op1.geq rfl rfl <| TK (t := 9) rfl (congrArg Value.bool (rfl : false = _)) <| Op1.move (v := .bool _) rfl <| RunL.splitD (d := 12) rfl (fun g5 => ?_) (fun g5 => ?_)
 · skip
   refine TK (t := 12) rfl (congrArg Value.bool (decide_eq_true g5)) <| Op1.move (v := .int .u8 _) rfl <| TK (t := 12) rfl (congrArg Value.bool (decide_eq_true g5)) <| Op1.leq rfl rfl <| TK (t := 9) rfl (congrArg Value.bool (rfl : false = _)) <| Op1.pickT (u := .bool _) (congrArg Value.bool (decide_eq_true g5)) rfl <| CN <| Op1.pickF (u := .bool _) (congrArg Value.bool (rfl : false = _)) rfl <| MB rfl <| RunL.splitD (d := 17) rfl (fun g6 => ?_) (fun g6 => ?_)
   · skip
     refine OM (t := 17) rfl (congrArg Value.bool (decide_eq_true g6)) rfl <| OM (t := 17) rfl (congrArg Value.bool (decide_eq_true g6)) rfl <| CN <| Op1.pickT (u := .bool _) (congrArg Value.bool (decide_eq_true g6)) rfl <| AB rfl <| NL <| run_ret1 Tryd.func48 rfl (TP (v := .bool _) rfl) <| ⟨congrArg Value.bool ?_, hst.pure⟩
     unfold letB
     first | (rw [decide_eq_decide]; omega) | exact (decide_eq_false (by omega)).symm | exact (decide_eq_true (by omega)).symm
   refine TK (t := 17) rfl (congrArg Value.bool (decide_eq_false g6)) <| Op1.move (v := .int .u8 _) rfl <| TK (t := 17) rfl (congrArg Value.bool (decide_eq_false g6)) <| Op1.eql rfl rfl <| CN <| Op1.pickF (u := .bool _) (congrArg Value.bool (decide_eq_false g6)) rfl <| AB rfl <| NL <| run_ret1 Tryd.func48 rfl (TP (v := .bool _) rfl) <| ⟨congrArg Value.bool ?_, hst.pure⟩
   unfold letB
   first | (rw [decide_eq_decide]; omega) | exact (decide_eq_false (by omega)).symm | exact (decide_eq_true (by omega)).symm
 refine OM (t := 12) rfl (congrArg Value.bool (decide_eq_false g5)) rfl <| OM (t := 12) rfl (congrArg Value.bool (decide_eq_false g5)) rfl <| TK (t := 9) rfl (congrArg Value.bool (rfl : false = _)) <| Op1.pickF (u := .bool _) (congrArg Value.bool (decide_eq_false g5)) rfl <| CN <| Op1.pickF (u := .bool _) (congrArg Value.bool (rfl : false = _)) rfl <| MB rfl <| TK (t := 17) rfl (congrArg Value.bool (rfl : false = _)) <| Op1.move (v := .int .u8 _) rfl <| TK (t := 17) rfl (congrArg Value.bool (rfl : false = _)) <| Op1.eql rfl rfl <| CN <| Op1.pickF (u := .bool _) (congrArg Value.bool (rfl : false = _)) rfl <| AB rfl <| NL <| run_ret1 Tryd.func48 rfl (TP (v := .bool _) rfl) <| ⟨congrArg Value.bool ?_, hst.pure⟩
 unfold letB
 first | (rw [decide_eq_decide]; omega) | exact (decide_eq_false (by omega)).symm | exact (decide_eq_true (by omega)).symm
end Go.SK
namespace Go.SK
open Go Go.Proofs
theorem ent48 : Enters Tryd.prog 48 := ⟨Tryd.f48, _, Tryd.func48, by kernel_rfl, rfl⟩
end Go.SK
namespace Go.SK
open Go Go.Proofs
open Go.RowKit
theorem R4lx_Run (s : Tx) (x : Int) (a : Nat) (hx : x = a) (ha : a ≤ s.length) (w : World) (hl : s.length ≤ 140737488355328) : Ret Tryd.prog 49 #[str s, .int .i64 x] w (fun v w' => v = str (runF (s.drop a)) ∧ St w NoM [] [] w') := by
 refine Ret.enter (args := [str s, .int .i64 x]) Tryd.func49 rfl rfl rfl ?_
 have hst := St.init w
 subst hx
 refine SR <| AS rfl <| NSR <| MI rfl <| AI rfl <| NL <| SQ <| run_block <| run_loop <| Run.indW [(0, str _), (1, .int .i64 _)] ⟨rfl, rfl, trivial⟩ (fun (qq : Nat) => [(5, .int .i64 (qq : Int))]) (fun (qq : Nat) => []) (fun (qq : Nat) => a ≤ qq ∧ qq ≤ s.length ∧ (runF (s.drop a)).length + a = qq + (runF (s.drop qq)).length) (fun (qq : Nat) => s.length - qq) (a) hst ⟨Nat.le_refl _, ha, Nat.add_comm _ _⟩ ⟨rfl, trivial⟩ ?_
 intro i f w hst hJ ih1
 replace hst : St _ _ ([] ++ []) _ _ := hst
 replace hJ : a ≤ i ∧ i ≤ s.length ∧ (runF (s.drop a)).length + a = i + (runF (s.drop i)).length := hJ
 refine Run.slots (sl := [(5, .int .i64 (i : Int))]) ⟨rfl, trivial⟩ ?_
 have hidx : (s.getD ((i : Int).toNat) 0).toNat = (s.getD i 0).toNat := rfl
 refine SQ <| SR <| MI rfl <| MS rfl <| CN <| Op1.lenS (rest := []) ty9 rfl <| CN <| Op1.lss rfl rfl <| MB rfl <| RunL.splitD (d := 11) rfl (fun g2 => ?_) (fun g2 => ?_)
 · skip
   refine TK (t := 11) rfl (congrArg Value.bool (decide_eq_true g2)) <| Op1.move (v := str _) rfl <| TK (t := 11) rfl (congrArg Value.bool (decide_eq_true g2)) <| Op1.move (v := .int .i64 _) rfl <| TK (t := 11) rfl (congrArg Value.bool (decide_eq_true g2)) <| Op1.indexS ty9 rfl rfl (by omega) (by omega) <| TK (t := 11) rfl (congrArg Value.bool (decide_eq_true g2)) (Op1.call1 (v1 := .int .u8 _) ent48 rfl rfl ((R4lx_Letter _ _).mono fun v w hp => ?_))
   obtain ⟨rfl, hp⟩ := hp
   replace hst := hst.keepc hp
   clear hp
   refine TK (t := 11) rfl (congrArg Value.bool (decide_eq_true g2)) <| Op1.move (v := .bool _) rfl <| RunL.split (d := 16) rfl (fun g3 => ?_) (fun g3 => ?_)
   · skip
     refine OM (t := 16) rfl (congrArg Value.bool g3) rfl <| OM (t := 16) rfl (congrArg Value.bool g3) rfl <| OM (t := 16) rfl (congrArg Value.bool g3) rfl <| OM (t := 16) rfl (congrArg Value.bool g3) rfl <| TK (t := 11) rfl (congrArg Value.bool (decide_eq_true g2)) <| Op1.pickT (u := .bool _) (congrArg Value.bool g3) rfl <| CN <| Op1.pickT (u := .bool _) (congrArg Value.bool (decide_eq_true g2)) rfl <| NL <| run_cond_true (congrArg Value.bool (rfl : true = _)) <| run_skip <| run_block <| RG <| MI rfl <| CN <| Op1.addN rfl rfl rfl (wrap_i64 (by omega) (by omega)) <| AI rfl <| NL ?_
     refine run_inBlock <| run_inLoop ?_
     have hs1 := run_step (s := s) (i := i) (by omega) (run_l g3)
     exact ih1 (i + 1) _ w (by omega) hst (⟨by omega, by omega, by omega⟩) ⟨rfl, rfl, trivial⟩ ⟨(congrArg (Value.int .i64) (by omega)), trivial⟩
   refine TK (t := 16) rfl (congrArg Value.bool g3) <| Op1.move (v := str _) rfl <| TK (t := 16) rfl (congrArg Value.bool g3) <| Op1.move (v := .int .i64 _) rfl <| TK (t := 16) rfl (congrArg Value.bool g3) <| Op1.indexS ty9 rfl rfl (by omega) (by omega) <| TK (t := 16) rfl (congrArg Value.bool g3) (Op1.call1 (v1 := .int .u8 _) ent50 rfl rfl ((R4lx_Digit _ _).mono fun v w hp => ?_))
   obtain ⟨rfl, hp⟩ := hp
   replace hst := hst.keepc hp
   clear hp
   refine TK (t := 11) rfl (congrArg Value.bool (decide_eq_true g2)) <| Op1.pickF (u := .bool _) (congrArg Value.bool g3) rfl <| CN <| Op1.pickT (u := .bool _) (congrArg Value.bool (decide_eq_true g2)) rfl <| NL <| run_cond_split rfl (fun g4 => ?_) (fun g4 => ?_)
   · skip
     refine run_skip <| run_block <| RG <| MI rfl <| CN <| Op1.addN rfl rfl rfl (wrap_i64 (by omega) (by omega)) <| AI rfl <| NL <| run_inBlock <| run_inLoop ?_
     have hs1 := run_step (s := s) (i := i) (by omega) (run_d g4)
     exact ih1 (i + 1) _ w (by omega) hst (⟨by omega, by omega, by omega⟩) ⟨rfl, rfl, trivial⟩ ⟨(congrArg (Value.int .i64) (by omega)), trivial⟩
   refine run_exit (id := 0) rfl <| SR <| MS rfl <| MI rfl <| MI rfl <| CN <| Op1.sliceMid ty9 rfl rfl rfl (by omega) (by omega) (by omega) <| AS rfl <| NL <| run_ret1 Tryd.func49 rfl (TP (v := str _) rfl) ?_
   have hz : (runF (s.drop i)).length = 0 := run_stop (by omega) (run_no g3 g4)
   refine ⟨congrArg str ?_, hst.pure⟩
   exact runF_take (s.drop a) (by omega)
 refine OM (t := 11) rfl (congrArg Value.bool (decide_eq_false g2)) rfl <| OM (t := 11) rfl (congrArg Value.bool (decide_eq_false g2)) rfl <| OM (t := 11) rfl (congrArg Value.bool (decide_eq_false g2)) rfl <| OM (t := 11) rfl (congrArg Value.bool (decide_eq_false g2)) rfl <| OM (t := 11) rfl (congrArg Value.bool (decide_eq_false g2)) rfl <| RunL.omitU (t := 16) rfl rfl <| RunL.omitU (t := 16) rfl rfl <| RunL.omitU (t := 16) rfl rfl <| RunL.omitU (t := 16) rfl rfl <| OM (t := 11) rfl (congrArg Value.bool (decide_eq_false g2)) rfl <| CN <| Op1.pickF (u := .bool _) (congrArg Value.bool (decide_eq_false g2)) rfl <| NL <| run_cond_false (congrArg Value.bool (rfl : false = _)) <| run_exit (id := 0) rfl <| SQ ?_
 refine RG <| MS rfl <| MI rfl <| MI rfl <| CN <| Op1.sliceMid ty9 rfl rfl rfl (by omega) (by omega) (by omega) <| AS rfl <| NL <| run_ret1 Tryd.func49 rfl (TP (v := str _) rfl) ?_
 have hz : (runF (s.drop i)).length = 0 := run_end (by omega)
 refine ⟨congrArg str ?_, hst.pure⟩
 exact runF_take (s.drop a) (by omega)
end Go.SK
namespace Go.SK
open Go Go.Proofs
theorem ent49 : Enters Tryd.prog 49 := ⟨Tryd.f49, _, Tryd.func49, by kernel_rfl, rfl⟩
end Go.SK
