/-
  Walks of functions, and of the laws over them.
-/
import Derived.Test.YtnbapjkldjhjoaaSkFacts1
import Derived.Test.YtnbapjkldjhjoaaSkEdgeA
import Derived.Test.YtnbapjkldjhjoaaSkH
set_option linter.unusedVariables false
set_option linter.unusedSimpArgs false
namespace Go.SK
open Go Go.Proofs
open Go.RowKit
theorem nextTrue {h : Nat → Bool} {i : Nat} (hp : ∀ j, j < i → h j = true) (hi : h i = true) : ∀ j, j < i + 1 → h j = true := fun j hj => by
  by_cases e : j = i
  · rw [e]; exact hi
  · exact hp j (by omega)
def InM (x : Int) : Prop := 0 ≤ x ∧ x ≤ 20000
def inZ (ax ay bx by_ px py : Int) : Bool := decide (0 < sideZ ax ay bx by_ px py ∨ (sideZ ax ay bx by_ px py = 0 ∧ topZ ax ay bx by_ = true))
def pt3 (a b c : Int) (i : Nat) : Int := match i with
  | 0 => a
  | 1 => b
  | _ => c
abbrev lineI (x0 y0 x1 y1 x2 y2 : Int) (i : Nat) : List Value := [.agg #[.int .i64 (pt3 x0 x1 x2 i), .int .i64 (pt3 y0 y1 y2 i), .int .i64 (pt3 x0 x1 x2 ((i + 1) % 3)), .int .i64 (pt3 y0 y1 y2 ((i + 1) % 3))]]
abbrev cells6 (x0 y0 x1 y1 x2 y2 : Int) : List Value := [.int .i64 x0, .int .i64 y0, .int .i64 x1, .int .i64 y1, .int .i64 x2, .int .i64 y2]
theorem edge_edges (x0 y0 x1 y1 x2 y2 : Int) (w : World) : Ret Try.prog 73 #[.agg #[.int .i64 x0, .int .i64 y0, .int .i64 x1, .int .i64 y1, .int .i64 x2, .int .i64 y2]] w (fun v w' => ∃ b, v = .func (.func 74) #[] #[.pointer (some ⟨b, 0, none⟩)] ∧ St w NoM [Res.row b 91 (cells6 x0 y0 x1 y1 x2 y2)] [] w') := by
  refine Ret.enter (args := [.agg #[.int .i64 x0, .int .i64 y0, .int .i64 x1, .int .i64 y1, .int .i64 x2, .int .i64 y2]]) Try.func73 rfl rfl rfl ?_
  have hst := St.init w
  refine run_seq ?_
  refine run_region ?_
  refine RunL.cons (Op1.box (v := .agg #[.int .i64 _, .int .i64 _, .int .i64 _, .int .i64 _, .int .i64 _, .int .i64 _]) hst rfl rfl fun w b1 hst => ?_)
  refine RunL.cons (Op1.assign (v := _) rfl ?_)
  refine RunL.nil ?_
  refine run_seq ?_
  refine run_region ?_
  refine RunL.cons (Op1.makeFunc ?_)
  refine RunL.cons (Op1.assign (v := .func _ _ _) rfl ?_)
  refine RunL.nil ?_
  refine run_ret1 Try.func73 rfl (RV.tmp (v := .func _ _ _) rfl) ?_
  exact ⟨_, rfl, hst⟩

theorem edges_iter (x0 y0 x1 y1 x2 y2 : Int) (bt : Nat) (w : World) (hb : (Res.row bt 91 (cells6 x0 y0 x1 y1 x2 y2)).holds w) : IterOk Try.prog 74 [.pointer (some ⟨bt, 0, none⟩)] 3 (lineI x0 y0 x1 y1 x2 y2) (· = bt) w := by
  intro yv R S hR hFD hy
  refine Ret.enter (args := [yv, .pointer (some ⟨bt, 0, none⟩)]) Try.func74 rfl rfl rfl ?_
  have hst : St w (R 0).foot [R 0] [Res.row bt 91 (cells6 x0 y0 x1 y1 x2 y2)] w := St.enter1 hR (fun d hd => by cases hd with | head => exact hb | tail _ h => cases h) (fun d hd => by cases hd with | head => exact fun b hb hb2 => hFD b hb hb2 | tail _ h => cases h)
  refine run_seq ?_
  refine run_region ?_
  refine RunL.cons (Op1.move (v := .int .i64 _) rfl ?_)
  refine RunL.nil ?_
  refine run_block ?_
  refine run_loop ?_
  refine run_seq ?_
  refine run_region ?_
  refine RunL.cons (Op1.lss rfl rfl ?_)
  refine RunL.nil ?_
  refine run_seq ?_
  refine run_cond_true (congrArg Value.bool (decide_eq_true (by decide))) ?_
  refine run_skip ?_
  refine run_seq ?_
  refine run_block ?_
  refine run_seq ?_
  refine run_region ?_
  refine RunL.cons (Op1.move (v := .int .i64 _) rfl ?_)
  refine RunL.cons (Op1.assign (v := .int .i64 _) rfl ?_)
  refine RunL.nil ?_
  refine run_seq ?_
  refine RunD.start [] hst (bs := [0, 0, 2, 6, 0, 16, 48, 112, 240, 510, 1023, 2047]) (ds := [some 7, some 8, some 9, some 10, some 11, some 12, some 13, some 14, some 15, some 16, some 17, some 18]) ⟨by kernel_rfl, by kernel_rfl, by kernel_rfl⟩ (fun tab1 => ?_)
  refine RunD.op (det _) tab1 1 (fun f' L' w' hc => Op1.move (v := _) (hc.old (v := _) rfl rfl rfl) ⟨[], ⟨rfl, rfl⟩, hc.st⟩) ?_
  refine RunD.op (det _) tab1 2 (fun f' L' w' hc => Op1.move (v := .int .i64 _) (hc.old (v := .int .i64 _) rfl rfl rfl) ⟨[], ⟨rfl, rfl⟩, hc.st⟩) ?_
  refine RunD.op (det _) tab1 3 (fun f' L' w' hc => Op1.indexArr ty91 ty76 (hc.old (v := .pointer (some ⟨_, _, none⟩)) rfl rfl rfl) (hc.det (j := 1) rfl rfl rfl rfl) (by omega) (by omega) ⟨[], ⟨rfl, rfl⟩, hc.st⟩) ?_
  refine RunD.op (det _) tab1 4 (fun f' L' w' hc => Op1.loadA (vs := [.int .i64 _, .int .i64 _]) ty76 rfl (hc.det (j := 2) rfl rfl rfl rfl) rfl (cells_of_obj (n := 2) (hc.st.objD (.head _)) _ rfl) ⟨[], ⟨rfl, rfl⟩, hc.st⟩) ?_
  refine RunD.op (det _) tab1 5 (fun f' L' w' hc => Op1.move (v := .int .i64 _) (hc.old (v := .int .i64 _) rfl rfl rfl) ⟨[], ⟨rfl, rfl⟩, hc.st⟩) ?_
  refine RunD.op (det _) tab1 6 (fun f' L' w' hc => Op1.addN (hc.det (j := 4) rfl rfl rfl rfl) rfl rfl (wrap_i64 (by omega) (by omega)) ⟨[], ⟨rfl, rfl⟩, hc.st⟩) ?_
  first | refine RunD.op (det _) tab1 7 (fun f' L' w' hc => Op1.remN (hc.det (j := 5) rfl rfl rfl rfl) rfl (by omega) (by omega) rfl ⟨[], ⟨rfl, rfl⟩, hc.st⟩) ?_ | refine RunD.op (det _) tab1 7 (fun f' L' w' hc => Op1.rem (hc.det (j := 5) rfl rfl rfl rfl) rfl (by omega) ⟨[], ⟨rfl, rfl⟩, hc.st⟩) ?_
  refine RunD.op (det _) tab1 8 (fun f' L' w' hc => Op1.indexArr ty91 ty76 (hc.old (v := .pointer (some ⟨_, _, none⟩)) rfl rfl rfl) (hc.det (j := 6) rfl rfl rfl rfl) (by omega) (by omega) ⟨[], ⟨rfl, rfl⟩, hc.st⟩) ?_
  refine RunD.op (det _) tab1 9 (fun f' L' w' hc => Op1.loadA (vs := [.int .i64 _, .int .i64 _]) ty76 rfl (hc.det (j := 7) rfl rfl rfl rfl) rfl (cells_of_obj (n := 2) (hc.st.objD (.head _)) _ rfl) ⟨[], ⟨rfl, rfl⟩, hc.st⟩) ?_
  refine RunD.op (det _) tab1 10 (fun f' L' w' hc => Op1.buildArr ty79 ty76 (.cons rfl (v := .agg #[.int .i64 _, .int .i64 _]) (hc.det (j := 3) rfl rfl rfl rfl) rfl rfl rfl (by repeat (first | exact Put.nil | apply Put.put | apply Put.skip)) (.cons rfl (v := .agg #[.int .i64 _, .int .i64 _]) (hc.det (j := 8) rfl rfl rfl rfl) rfl rfl rfl (by repeat (first | exact Put.nil | apply Put.put | apply Put.skip)) .nil)) ⟨[], ⟨rfl, rfl⟩, hc.st⟩) ?_
  refine RunD.fin followsMixed tab1 hst rfl (fun f2 w R5 hs3 hd4 hr6 hst => ?_)
  obtain ⟨h7_, r0⟩ := hd4 0 7 rfl rfl
  obtain ⟨h8_, r1⟩ := hd4 1 8 rfl rfl
  obtain ⟨h9_, r2⟩ := hd4 2 9 rfl rfl
  obtain ⟨h10_, r3⟩ := hd4 3 10 rfl rfl
  obtain ⟨h11_, r4⟩ := hd4 4 11 rfl rfl
  obtain ⟨h12_, r5⟩ := hd4 5 12 rfl rfl
  obtain ⟨h13_, r6⟩ := hd4 6 13 rfl rfl
  obtain ⟨h14_, r7⟩ := hd4 7 14 rfl rfl
  obtain ⟨h15_, r8⟩ := hd4 8 15 rfl rfl
  obtain ⟨h16_, r9⟩ := hd4 9 16 rfl rfl
  simp only [show List.range 10 = [0, 1, 2, 3, 4, 5, 6, 7, 8, 9] from rfl, List.flatMap_cons, List.flatMap_nil, List.map_cons, List.map_nil, r0, r1, r2, r3, r4, r5, r6, r7, r8, r9, List.nil_append, List.append_nil, List.cons_append] at hst
  refine RunL.slots (sl := [(0, _), (1, .pointer (some ⟨_, _, none⟩)), (4, .int .i64 _), (7, _), (16, .agg #[.int .i64 _, .int .i64 _, .int .i64 _, .int .i64 _])]) ⟨(hs3 0 rfl).trans rfl, (hs3 1 rfl).trans rfl, (hs3 4 rfl).trans rfl, h7_, h16_, trivial⟩ ?_
  clear hs3 hd4 hr6 tab1
  refine RunL.cons (Op1.callV1 (v1 := .agg #[.int .i64 _, .int .i64 _, .int .i64 _, .int .i64 _]) rfl rfl ((hy 0 (by decide) _ hst.one).mono fun v w hp => ?_))
  rcases hp with ⟨rfl, hp⟩ | ⟨rfl, hp⟩
  · skip
    replace hst := hst.call1 hp
    clear hp
    refine RunL.cons (Op1.not rfl ?_)
    refine RunL.nil ?_
    refine run_cond_false (congrArg Value.bool (congrArg not (rfl : true = _))) ?_
    refine run_skip ?_
    refine run_inBlock ?_
    refine run_region ?_
    refine RunL.cons (Op1.addN rfl rfl rfl (wrap_i64 (by omega) (by omega)) ?_)
    refine RunL.cons (Op1.move (v := .int .i64 _) rfl ?_)
    refine RunL.nil ?_
    refine run_inLoop ?_
    refine run_seq ?_
    refine run_region ?_
    refine RunL.cons (Op1.lss rfl rfl ?_)
    refine RunL.nil ?_
    refine run_seq ?_
    refine run_cond_true (congrArg Value.bool (decide_eq_true (by decide))) ?_
    refine run_skip ?_
    refine run_seq ?_
    refine run_block ?_
    refine run_seq ?_
    refine run_region ?_
    refine RunL.cons (Op1.move (v := .int .i64 _) rfl ?_)
    refine RunL.cons (Op1.assign (v := .int .i64 _) rfl ?_)
    refine RunL.nil ?_
    refine run_seq ?_
    refine RunD.start [] hst (bs := [0, 0, 2, 6, 0, 16, 48, 112, 240, 510, 1023, 2047]) (ds := [some 7, some 8, some 9, some 10, some 11, some 12, some 13, some 14, some 15, some 16, some 17, some 18]) ⟨by kernel_rfl, by kernel_rfl, by kernel_rfl⟩ (fun tab7 => ?_)
    refine RunD.op (det _) tab7 1 (fun f' L' w' hc => Op1.move (v := _) (hc.old (v := _) rfl rfl rfl) ⟨[], ⟨rfl, rfl⟩, hc.st⟩) ?_
    refine RunD.op (det _) tab7 2 (fun f' L' w' hc => Op1.move (v := .int .i64 _) (hc.old (v := .int .i64 _) rfl rfl rfl) ⟨[], ⟨rfl, rfl⟩, hc.st⟩) ?_
    refine RunD.op (det _) tab7 3 (fun f' L' w' hc => Op1.indexArr ty91 ty76 (hc.old (v := .pointer (some ⟨_, _, none⟩)) rfl rfl rfl) (hc.det (j := 1) rfl rfl rfl rfl) (by omega) (by omega) ⟨[], ⟨rfl, rfl⟩, hc.st⟩) ?_
    refine RunD.op (det _) tab7 4 (fun f' L' w' hc => Op1.loadA (vs := [.int .i64 _, .int .i64 _]) ty76 rfl (hc.det (j := 2) rfl rfl rfl rfl) rfl (cells_of_obj (n := 2) (hc.st.objD (.head _)) _ rfl) ⟨[], ⟨rfl, rfl⟩, hc.st⟩) ?_
    refine RunD.op (det _) tab7 5 (fun f' L' w' hc => Op1.move (v := .int .i64 _) (hc.old (v := .int .i64 _) rfl rfl rfl) ⟨[], ⟨rfl, rfl⟩, hc.st⟩) ?_
    refine RunD.op (det _) tab7 6 (fun f' L' w' hc => Op1.addN (hc.det (j := 4) rfl rfl rfl rfl) rfl rfl (wrap_i64 (by omega) (by omega)) ⟨[], ⟨rfl, rfl⟩, hc.st⟩) ?_
    first | refine RunD.op (det _) tab7 7 (fun f' L' w' hc => Op1.remN (hc.det (j := 5) rfl rfl rfl rfl) rfl (by omega) (by omega) rfl ⟨[], ⟨rfl, rfl⟩, hc.st⟩) ?_ | refine RunD.op (det _) tab7 7 (fun f' L' w' hc => Op1.rem (hc.det (j := 5) rfl rfl rfl rfl) rfl (by omega) ⟨[], ⟨rfl, rfl⟩, hc.st⟩) ?_
    refine RunD.op (det _) tab7 8 (fun f' L' w' hc => Op1.indexArr ty91 ty76 (hc.old (v := .pointer (some ⟨_, _, none⟩)) rfl rfl rfl) (hc.det (j := 6) rfl rfl rfl rfl) (by omega) (by omega) ⟨[], ⟨rfl, rfl⟩, hc.st⟩) ?_
    refine RunD.op (det _) tab7 9 (fun f' L' w' hc => Op1.loadA (vs := [.int .i64 _, .int .i64 _]) ty76 rfl (hc.det (j := 7) rfl rfl rfl rfl) rfl (cells_of_obj (n := 2) (hc.st.objD (.head _)) _ rfl) ⟨[], ⟨rfl, rfl⟩, hc.st⟩) ?_
    refine RunD.op (det _) tab7 10 (fun f' L' w' hc => Op1.buildArr ty79 ty76 (.cons rfl (v := .agg #[.int .i64 _, .int .i64 _]) (hc.det (j := 3) rfl rfl rfl rfl) rfl rfl rfl (by repeat (first | exact Put.nil | apply Put.put | apply Put.skip)) (.cons rfl (v := .agg #[.int .i64 _, .int .i64 _]) (hc.det (j := 8) rfl rfl rfl rfl) rfl rfl rfl (by repeat (first | exact Put.nil | apply Put.put | apply Put.skip)) .nil)) ⟨[], ⟨rfl, rfl⟩, hc.st⟩) ?_
    refine RunD.fin followsMixed tab7 hst rfl (fun f8 w R11 hs9 hd10 hr12 hst => ?_)
    obtain ⟨h7_, r0⟩ := hd10 0 7 rfl rfl
    obtain ⟨h8_, r1⟩ := hd10 1 8 rfl rfl
    obtain ⟨h9_, r2⟩ := hd10 2 9 rfl rfl
    obtain ⟨h10_, r3⟩ := hd10 3 10 rfl rfl
    obtain ⟨h11_, r4⟩ := hd10 4 11 rfl rfl
    obtain ⟨h12_, r5⟩ := hd10 5 12 rfl rfl
    obtain ⟨h13_, r6⟩ := hd10 6 13 rfl rfl
    obtain ⟨h14_, r7⟩ := hd10 7 14 rfl rfl
    obtain ⟨h15_, r8⟩ := hd10 8 15 rfl rfl
    obtain ⟨h16_, r9⟩ := hd10 9 16 rfl rfl
    simp only [show List.range 10 = [0, 1, 2, 3, 4, 5, 6, 7, 8, 9] from rfl, List.flatMap_cons, List.flatMap_nil, List.map_cons, List.map_nil, r0, r1, r2, r3, r4, r5, r6, r7, r8, r9, List.nil_append, List.append_nil, List.cons_append] at hst
    refine RunL.slots (sl := [(0, _), (1, .pointer (some ⟨_, _, none⟩)), (4, .int .i64 _), (7, _), (16, .agg #[.int .i64 _, .int .i64 _, .int .i64 _, .int .i64 _])]) ⟨(hs9 0 rfl).trans rfl, (hs9 1 rfl).trans rfl, (hs9 4 rfl).trans rfl, h7_, h16_, trivial⟩ ?_
    clear hs9 hd10 hr12 tab7
    refine RunL.cons (Op1.callV1 (v1 := .agg #[.int .i64 _, .int .i64 _, .int .i64 _, .int .i64 _]) rfl rfl ((hy 1 (by decide) _ hst.one).mono fun v w hp => ?_))
    rcases hp with ⟨rfl, hp⟩ | ⟨rfl, hp⟩
    · skip
      replace hst := hst.call1 hp
      clear hp
      refine RunL.cons (Op1.not rfl ?_)
      refine RunL.nil ?_
      refine run_cond_false (congrArg Value.bool (congrArg not (rfl : true = _))) ?_
      refine run_skip ?_
      refine run_inBlock ?_
      refine run_region ?_
      refine RunL.cons (Op1.addN rfl rfl rfl (wrap_i64 (by omega) (by omega)) ?_)
      refine RunL.cons (Op1.move (v := .int .i64 _) rfl ?_)
      refine RunL.nil ?_
      refine run_inLoop ?_
      refine run_seq ?_
      refine run_region ?_
      refine RunL.cons (Op1.lss rfl rfl ?_)
      refine RunL.nil ?_
      refine run_seq ?_
      refine run_cond_true (congrArg Value.bool (decide_eq_true (by decide))) ?_
      refine run_skip ?_
      refine run_seq ?_
      refine run_block ?_
      refine run_seq ?_
      refine run_region ?_
      refine RunL.cons (Op1.move (v := .int .i64 _) rfl ?_)
      refine RunL.cons (Op1.assign (v := .int .i64 _) rfl ?_)
      refine RunL.nil ?_
      refine run_seq ?_
      refine RunD.start [] hst (bs := [0, 0, 2, 6, 0, 16, 48, 112, 240, 510, 1023, 2047]) (ds := [some 7, some 8, some 9, some 10, some 11, some 12, some 13, some 14, some 15, some 16, some 17, some 18]) ⟨by kernel_rfl, by kernel_rfl, by kernel_rfl⟩ (fun tab13 => ?_)
      refine RunD.op (det _) tab13 1 (fun f' L' w' hc => Op1.move (v := _) (hc.old (v := _) rfl rfl rfl) ⟨[], ⟨rfl, rfl⟩, hc.st⟩) ?_
      refine RunD.op (det _) tab13 2 (fun f' L' w' hc => Op1.move (v := .int .i64 _) (hc.old (v := .int .i64 _) rfl rfl rfl) ⟨[], ⟨rfl, rfl⟩, hc.st⟩) ?_
      refine RunD.op (det _) tab13 3 (fun f' L' w' hc => Op1.indexArr ty91 ty76 (hc.old (v := .pointer (some ⟨_, _, none⟩)) rfl rfl rfl) (hc.det (j := 1) rfl rfl rfl rfl) (by omega) (by omega) ⟨[], ⟨rfl, rfl⟩, hc.st⟩) ?_
      refine RunD.op (det _) tab13 4 (fun f' L' w' hc => Op1.loadA (vs := [.int .i64 _, .int .i64 _]) ty76 rfl (hc.det (j := 2) rfl rfl rfl rfl) rfl (cells_of_obj (n := 2) (hc.st.objD (.head _)) _ rfl) ⟨[], ⟨rfl, rfl⟩, hc.st⟩) ?_
      refine RunD.op (det _) tab13 5 (fun f' L' w' hc => Op1.move (v := .int .i64 _) (hc.old (v := .int .i64 _) rfl rfl rfl) ⟨[], ⟨rfl, rfl⟩, hc.st⟩) ?_
      refine RunD.op (det _) tab13 6 (fun f' L' w' hc => Op1.addN (hc.det (j := 4) rfl rfl rfl rfl) rfl rfl (wrap_i64 (by omega) (by omega)) ⟨[], ⟨rfl, rfl⟩, hc.st⟩) ?_
      first | refine RunD.op (det _) tab13 7 (fun f' L' w' hc => Op1.remN (hc.det (j := 5) rfl rfl rfl rfl) rfl (by omega) (by omega) rfl ⟨[], ⟨rfl, rfl⟩, hc.st⟩) ?_ | refine RunD.op (det _) tab13 7 (fun f' L' w' hc => Op1.rem (hc.det (j := 5) rfl rfl rfl rfl) rfl (by omega) ⟨[], ⟨rfl, rfl⟩, hc.st⟩) ?_
      refine RunD.op (det _) tab13 8 (fun f' L' w' hc => Op1.indexArr ty91 ty76 (hc.old (v := .pointer (some ⟨_, _, none⟩)) rfl rfl rfl) (hc.det (j := 6) rfl rfl rfl rfl) (by omega) (by omega) ⟨[], ⟨rfl, rfl⟩, hc.st⟩) ?_
      refine RunD.op (det _) tab13 9 (fun f' L' w' hc => Op1.loadA (vs := [.int .i64 _, .int .i64 _]) ty76 rfl (hc.det (j := 7) rfl rfl rfl rfl) rfl (cells_of_obj (n := 2) (hc.st.objD (.head _)) _ rfl) ⟨[], ⟨rfl, rfl⟩, hc.st⟩) ?_
      refine RunD.op (det _) tab13 10 (fun f' L' w' hc => Op1.buildArr ty79 ty76 (.cons rfl (v := .agg #[.int .i64 _, .int .i64 _]) (hc.det (j := 3) rfl rfl rfl rfl) rfl rfl rfl (by repeat (first | exact Put.nil | apply Put.put | apply Put.skip)) (.cons rfl (v := .agg #[.int .i64 _, .int .i64 _]) (hc.det (j := 8) rfl rfl rfl rfl) rfl rfl rfl (by repeat (first | exact Put.nil | apply Put.put | apply Put.skip)) .nil)) ⟨[], ⟨rfl, rfl⟩, hc.st⟩) ?_
      refine RunD.fin followsMixed tab13 hst rfl (fun f14 w R17 hs15 hd16 hr18 hst => ?_)
      obtain ⟨h7_, r0⟩ := hd16 0 7 rfl rfl
      obtain ⟨h8_, r1⟩ := hd16 1 8 rfl rfl
      obtain ⟨h9_, r2⟩ := hd16 2 9 rfl rfl
      obtain ⟨h10_, r3⟩ := hd16 3 10 rfl rfl
      obtain ⟨h11_, r4⟩ := hd16 4 11 rfl rfl
      obtain ⟨h12_, r5⟩ := hd16 5 12 rfl rfl
      obtain ⟨h13_, r6⟩ := hd16 6 13 rfl rfl
      obtain ⟨h14_, r7⟩ := hd16 7 14 rfl rfl
      obtain ⟨h15_, r8⟩ := hd16 8 15 rfl rfl
      obtain ⟨h16_, r9⟩ := hd16 9 16 rfl rfl
      simp only [show List.range 10 = [0, 1, 2, 3, 4, 5, 6, 7, 8, 9] from rfl, List.flatMap_cons, List.flatMap_nil, List.map_cons, List.map_nil, r0, r1, r2, r3, r4, r5, r6, r7, r8, r9, List.nil_append, List.append_nil, List.cons_append] at hst
      refine RunL.slots (sl := [(0, _), (1, .pointer (some ⟨_, _, none⟩)), (4, .int .i64 _), (7, _), (16, .agg #[.int .i64 _, .int .i64 _, .int .i64 _, .int .i64 _])]) ⟨(hs15 0 rfl).trans rfl, (hs15 1 rfl).trans rfl, (hs15 4 rfl).trans rfl, h7_, h16_, trivial⟩ ?_
      clear hs15 hd16 hr18 tab13
      refine RunL.cons (Op1.callV1 (v1 := .agg #[.int .i64 _, .int .i64 _, .int .i64 _, .int .i64 _]) rfl rfl ((hy 2 (by decide) _ hst.one).mono fun v w hp => ?_))
      rcases hp with ⟨rfl, hp⟩ | ⟨rfl, hp⟩
      · skip
        replace hst := hst.call1 hp
        clear hp
        refine RunL.cons (Op1.not rfl ?_)
        refine RunL.nil ?_
        refine run_cond_false (congrArg Value.bool (congrArg not (rfl : true = _))) ?_
        refine run_skip ?_
        refine run_inBlock ?_
        refine run_region ?_
        refine RunL.cons (Op1.addN rfl rfl rfl (wrap_i64 (by omega) (by omega)) ?_)
        refine RunL.cons (Op1.move (v := .int .i64 _) rfl ?_)
        refine RunL.nil ?_
        refine run_inLoop ?_
        refine run_seq ?_
        refine run_region ?_
        refine RunL.cons (Op1.lss rfl rfl ?_)
        refine RunL.nil ?_
        refine run_seq ?_
        refine run_cond_false (congrArg Value.bool (decide_eq_false (by decide))) ?_
        refine run_exit (id := 0) rfl ?_
        refine run_end0 Try.func74 rfl  ?_
        exact .inl hst.one
      · skip
        replace hst := hst.call1 hp
        clear hp
        refine RunL.cons (Op1.not rfl ?_)
        refine RunL.nil ?_
        refine run_cond_true (congrArg Value.bool (congrArg not (rfl : false = _))) ?_
        refine run_ret0 Try.func74 rfl  ?_
        exact .inr ⟨2, by decide, hst.one⟩
    · skip
      replace hst := hst.call1 hp
      clear hp
      refine RunL.cons (Op1.not rfl ?_)
      refine RunL.nil ?_
      refine run_cond_true (congrArg Value.bool (congrArg not (rfl : false = _))) ?_
      refine run_ret0 Try.func74 rfl  ?_
      exact .inr ⟨1, by decide, hst.one⟩
  · skip
    replace hst := hst.call1 hp
    clear hp
    refine RunL.cons (Op1.not rfl ?_)
    refine RunL.nil ?_
    refine run_cond_true (congrArg Value.bool (congrArg not (rfl : false = _))) ?_
    refine run_ret0 Try.func74 rfl  ?_
    exact .inr ⟨0, by decide, hst.one⟩

theorem edge_all (x0 y0 x1 y1 x2 y2 : Int) (fn : Fn) (cap : Array Value) (h : Nat → Bool) (w : World) (hh : ∀ i, i < 3 → ∀ w1, Kept NoM w w1 → CallV Try.prog (.func fn #[] cap) (lineI x0 y0 x1 y1 x2 y2 i) w1 fun v w2 => v = .bool (h i) ∧ St w1 NoM [] [] w2) : Ret Try.prog 61 #[.agg #[.int .i64 x0, .int .i64 y0, .int .i64 x1, .int .i64 y1, .int .i64 x2, .int .i64 y2], .func fn #[] cap] w fun v w' => v = .bool (h 0 && h 1 && h 2) ∧ St w NoM [] [] w' := by
  refine Ret.enter (args := [.agg #[.int .i64 x0, .int .i64 y0, .int .i64 x1, .int .i64 y1, .int .i64 x2, .int .i64 y2], .func fn #[] cap]) Try.func61 rfl rfl rfl ?_
  have hst := St.init w
  refine run_seq ?_
  refine run_region ?_
  refine RunL.cons (Op1.box (v := .agg #[.int .i64 _, .int .i64 _, .int .i64 _, .int .i64 _, .int .i64 _, .int .i64 _]) hst rfl rfl fun w b2 hst => ?_)
  refine RunL.cons (Op1.box (v := .func _ _ _) hst rfl rfl fun w b3 hst => ?_)
  refine RunL.cons (Op1.alloc hst ty4 fun w b4 hst => ?_)
  refine RunL.nil ?_
  refine run_seq ?_
  refine run_seq ?_
  refine run_region ?_
  refine RunL.cons (Op1.loadA (vs := [.int .i64 _, .int .i64 _, .int .i64 _, .int .i64 _, .int .i64 _, .int .i64 _]) ty91 rfl rfl rfl (cells_of_obj (n := 6) (hst.objL (.tail _ (.tail _ (.head _)))) _ rfl) ?_)
  refine RunL.cons (Op1.call1 (v1 := .agg #[.int .i64 _, .int .i64 _, .int .i64 _, .int .i64 _, .int .i64 _, .int .i64 _]) ent73 rfl rfl ((edge_edges _ _ _ _ _ _ _).mono fun v w hp => ?_))
  obtain ⟨bt, rfl, hp⟩ := hp
  replace hst := hst.call0 hp
  clear hp
  refine RunL.nil ?_
  refine run_block ?_
  replace hst := hst.addProp (p := ∀ j, j < 0 → h j = true) (fun j hj => absurd hj (by omega))
  replace hst := hst.pick (.cons (.here) (.cons (.there (.here)) (.cons (.here) (.cons (.here) (.cons (.here) .nil)))))
  refine run_rangeIter (L1 := [_, _]) (L2 := [_, _, _]) (item := lineI x0 y0 x1 y1 x2 y2) (FD := (· = bt)) (fun i => [Res.prop (∀ j, j < i → h j = true), Res.row b4 4 [.bool false]]) (fun i => [Res.prop (h i = false), Res.row b4 4 [.bool false]]) (fun _ => .ret) hst rfl rfl ent74 (fun b hb => .inl ⟨Res.row bt 91 (cells6 x0 y0 x1 y1 x2 y2), .head _, hb⟩) (fun w1 h1 => edges_iter _ _ _ _ _ _ _ _ (h1.hL _ (.tail _ (.tail _ (.head _))))) (fun _ _ => rfl) ?_ ?_ ?_
  · intro i hi w bl br lp hlp hst hk
    have hprop : ∀ j, j < i → h j = true := hst.hL _ (.tail _ (.tail _ (.head _)))
    refine run_region ?_
    refine RunL.cons (Op1.alloc hst ty79 fun w b5 hst => ?_)
    refine RunL.cons (Op1.store (v := .agg #[.int .i64 _, .int .i64 _, .int .i64 _, .int .i64 _]) hst ty79 rfl rfl rfl rfl rfl (.here) (by repeat (first | exact Put.nil | apply Put.put | apply Put.skip)) fun w hst => ?_)
    refine RunL.nil ?_
    refine run_beginR hlp hst (.there (.here)) fun w hst => ?_
    refine run_block ?_
    refine run_seq ?_
    refine run_region ?_
    refine RunL.cons (Op1.load1 (v := .func _ _ _) ty93 rfl rfl (hst.cellD (.tail _ (.head _)) rfl) ?_)
    refine RunL.cons (Op1.loadA (vs := [.int .i64 _, .int .i64 _, .int .i64 _, .int .i64 _]) ty79 rfl rfl rfl (cells_of_obj (n := 4) (hst.objL (.head _)) _ rfl) ?_)
    refine RunL.cons (Op1.callV1 (v1 := .agg #[.int .i64 _, .int .i64 _, .int .i64 _, .int .i64 _]) rfl rfl ((hh i hi _ (hk _ hst.kept)).mono fun v w hp => ?_))
    obtain ⟨rfl, hp⟩ := hp
    replace hst := hst.keepc hp
    have hp := Bool.eq_false_or_eq_true (h i)
    rcases hp with hi1 | hi0
    · skip
      refine RunL.cons (Op1.not rfl ?_)
      refine RunL.nil ?_
      refine run_cond_false (congrArg Value.bool (congrArg not hi1)) ?_
      refine run_skip ?_
      refine run_inBlock ?_
      refine run_endR hlp hst (.there (.here)) fun w hst => ?_
      replace hst := hst.addProp (p := ∀ j, j < i + 1 → h j = true) (nextTrue hprop hi1)
      replace hst := hst.pick (.cons (.there (.there (.here))) (.cons (.there (.there (.here))) (.cons (.here) (.cons (.there (.there (.here))) .nil))))
      exact .inl ⟨rfl, _, hst⟩
    · skip
      refine RunL.cons (Op1.not rfl ?_)
      refine RunL.nil ?_
      refine run_cond_true (congrArg Value.bool (congrArg not hi0)) ?_
      refine run_seq ?_
      refine run_region ?_
      refine RunL.cons (Op1.store (v := .bool _) hst ty4 rfl rfl rfl rfl rfl (.there (.there (.there (.there (.here))))) (by repeat (first | exact Put.nil | apply Put.put | apply Put.skip)) fun w hst => ?_)
      refine RunL.nil ?_
      refine run_retR hst (.there (.here)) fun w hst => ?_
      replace hst := hst.addProp (p := h i = false) (hi0)
      replace hst := hst.pick (.cons (.there (.there (.here))) (.cons (.there (.there (.here))) (.cons (.here) (.cons (.there (.there (.here))) .nil))))
      exact .inr ⟨rfl, _, hst⟩
  · intro w bl br lp hst
    have hall : ∀ j, j < 3 → h j = true := hst.hL _ (.tail _ (.tail _ (.head _)))
    refine run_inBlock ?_
    refine run_seq ?_
    refine run_region ?_
    refine RunL.cons (Op1.store (v := .bool _) hst ty4 rfl rfl rfl rfl rfl (.there (.there (.there (.here)))) (by repeat (first | exact Put.nil | apply Put.put | apply Put.skip)) fun w hst => ?_)
    refine RunL.nil ?_
    refine run_ret_mark Try.func61 hst (.there (.here)) fun w hst => ⟨_, res1 rfl (RV.cell1 (v := .bool _) rfl ty4 rfl (hst.cellL (.tail _ (.tail _ (.tail _ (.head _)))) rfl)), ?_⟩
    exact ⟨congrArg Value.bool (by rw [hall 0 (by omega), hall 1 (by omega), hall 2 (by omega)]; rfl), hst.pure⟩
  · intro i hi w bl br lp hst
    have hs : h i = false := hst.hL _ (.tail _ (.tail _ (.head _)))
    refine run_ret_mark Try.func61 hst (.there (.here)) fun w hst => ⟨_, res1 rfl (RV.cell1 (v := .bool _) rfl ty4 rfl (hst.cellL (.tail _ (.tail _ (.tail _ (.head _)))) rfl)), ?_⟩
    refine ⟨congrArg Value.bool ?_, hst.pure⟩
    have h3 : i = 0 ∨ i = 1 ∨ i = 2 := by omega
    rcases h3 with rfl | rfl | rfl <;> simp [hs]

theorem covers_fun (ax ay bx by_ px py : Int) (h : InC ax ∧ InC ay ∧ InC bx ∧ InC by_ ∧ InM px ∧ InM py) (bm : Nat) (w : World) (hb : (Res.row bm 76 [.int .i64 px, .int .i64 py]).holds w) : Ret Try.prog 62 #[.agg #[.int .i64 ax, .int .i64 ay, .int .i64 bx, .int .i64 by_], .pointer (some ⟨bm, 0, none⟩)] w (fun v w' => v = .bool (inZ ax ay bx by_ px py) ∧ St w NoM [] [] w') := by
  refine Ret.enter (args := [.agg #[.int .i64 ax, .int .i64 ay, .int .i64 bx, .int .i64 by_], .pointer (some ⟨bm, 0, none⟩)]) Try.func62 rfl rfl rfl ?_
  have hst : St w NoM [] [Res.row bm 76 [.int .i64 px, .int .i64 py]] w := St.init_D hb
  refine run_seq ?_
  refine run_region ?_
  refine RunL.cons (Op1.box (v := .agg #[.int .i64 _, .int .i64 _, .int .i64 _, .int .i64 _]) hst rfl rfl fun w b2 hst => ?_)
  refine RunL.cons (Op1.assign (v := .bool _) rfl ?_)
  refine RunL.nil ?_
  refine run_seq ?_
  refine run_region ?_
  refine RunL.cons (Op1.loadA (vs := [.int .i64 _, .int .i64 _, .int .i64 _, .int .i64 _]) ty79 rfl rfl rfl (cells_of_obj (n := 4) (hst.objL (.head _)) _ rfl) ?_)
  refine RunL.cons (Op1.loadA (vs := [.int .i64 _, .int .i64 _]) ty76 rfl rfl rfl (cells_of_obj (n := 2) (hst.objD (.head _)) _ rfl) ?_)
  refine RunL.cons (Op1.call2 (v1 := .agg #[.int .i64 _, .int .i64 _, .int .i64 _, .int .i64 _]) (v2 := .agg #[.int .i64 _, .int .i64 _]) ent53 rfl rfl rfl ((line_side _ _ _ _ _ _ (by simp only [InC, InM] at *; omega) _).mono fun v w hp => ?_))
  obtain ⟨rfl, hp⟩ := hp
  replace hst := hst.keepc hp
  clear hp
  refine RunL.cons (Op1.assign (v := .int .i64 _) rfl ?_)
  refine RunL.nil ?_
  refine run_seq ?_
  refine run_region ?_
  refine RunL.cons (Op1.move (v := .int .i64 _) rfl ?_)
  refine RunL.cons (Op1.gtr rfl rfl ?_)
  refine RunL.cons (Op1.move (v := .bool _) rfl ?_)
  refine RunL.splitD (d := 10) rfl (fun g1 => ?_) (fun g1 => ?_)
  · skip
    refine RunL.omit (t := 10) rfl (congrArg Value.bool (decide_eq_true g1)) rfl ?_
    refine RunL.omit (t := 10) rfl (congrArg Value.bool (decide_eq_true g1)) rfl ?_
    refine RunL.omit (t := 10) rfl (congrArg Value.bool (decide_eq_true g1)) rfl ?_
    refine RunL.omitU (t := 13) rfl rfl ?_
    refine RunL.omitU (t := 13) rfl rfl ?_
    refine RunL.omit (t := 10) rfl (congrArg Value.bool (decide_eq_true g1)) rfl ?_
    refine RunL.cons (Op1.pickT (u := .bool _) (congrArg Value.bool (decide_eq_true g1)) rfl ?_)
    refine RunL.cons (Op1.assign (v := .bool _) rfl ?_)
    refine RunL.nil ?_
    refine run_ret1 Try.func62 rfl (RV.tmp (v := .bool _) rfl) ?_
    refine ⟨congrArg Value.bool ?_, hst.pure⟩
    unfold inZ
    first | (rw [decide_eq_decide]; omega) | exact (decide_eq_false (by simp_all; omega)).symm | exact (decide_eq_true (by omega)).symm | (symm; simp_all)
  · skip
    refine RunL.take (t := 10) rfl (congrArg Value.bool (decide_eq_false g1)) (Op1.move (v := .int .i64 _) rfl ?_)
    refine RunL.take (t := 10) rfl (congrArg Value.bool (decide_eq_false g1)) (Op1.eql rfl rfl ?_)
    refine RunL.take (t := 10) rfl (congrArg Value.bool (decide_eq_false g1)) (Op1.move (v := .bool _) rfl ?_)
    refine RunL.splitD (d := 13) rfl (fun g2 => ?_) (fun g2 => ?_)
    · skip
      refine RunL.take (t := 13) rfl (congrArg Value.bool (decide_eq_true g2)) (Op1.loadA (vs := [.int .i64 _, .int .i64 _, .int .i64 _, .int .i64 _]) ty79 rfl rfl rfl (cells_of_obj (n := 4) (hst.objL (.head _)) _ rfl) ?_)
      refine RunL.take (t := 13) rfl (congrArg Value.bool (decide_eq_true g2)) (Op1.call1 (v1 := .agg #[.int .i64 _, .int .i64 _, .int .i64 _, .int .i64 _]) ent55 rfl rfl ((line_top _ _ _ _ _).mono fun v w hp => ?_))
      obtain ⟨rfl, hp⟩ := hp
      replace hst := hst.keepc hp
      clear hp
      refine RunL.take (t := 10) rfl (congrArg Value.bool (decide_eq_false g1)) (Op1.pickT (u := .bool _) (congrArg Value.bool (decide_eq_true g2)) rfl ?_)
      refine RunL.cons (Op1.pickF (u := .bool _) (congrArg Value.bool (decide_eq_false g1)) rfl ?_)
      refine RunL.cons (Op1.assign (v := .bool _) rfl ?_)
      refine RunL.nil ?_
      refine run_ret1 Try.func62 rfl (RV.tmp (v := .bool _) rfl) ?_
      refine ⟨congrArg Value.bool ?_, hst.pure⟩
      unfold inZ
      first | (rw [decide_eq_decide]; omega) | exact (decide_eq_false (by simp_all; omega)).symm | exact (decide_eq_true (by omega)).symm | (symm; simp_all)
    · skip
      refine RunL.omit (t := 13) rfl (congrArg Value.bool (decide_eq_false g2)) rfl ?_
      refine RunL.omit (t := 13) rfl (congrArg Value.bool (decide_eq_false g2)) rfl ?_
      refine RunL.take (t := 10) rfl (congrArg Value.bool (decide_eq_false g1)) (Op1.pickF (u := .bool _) (congrArg Value.bool (decide_eq_false g2)) rfl ?_)
      refine RunL.cons (Op1.pickF (u := .bool _) (congrArg Value.bool (decide_eq_false g1)) rfl ?_)
      refine RunL.cons (Op1.assign (v := .bool _) rfl ?_)
      refine RunL.nil ?_
      refine run_ret1 Try.func62 rfl (RV.tmp (v := .bool _) rfl) ?_
      refine ⟨congrArg Value.bool ?_, hst.pure⟩
      unfold inZ
      first | (rw [decide_eq_decide]; omega) | exact (decide_eq_false (by simp_all; omega)).symm | exact (decide_eq_true (by omega)).symm | (symm; simp_all)

end Go.SK
