/-
  Walks of functions, and of the laws over them.
-/
import Derived.Test.YtheckaonphmmiaaSkGrP
import Derived.Test.YtheckaonphmmiaaSkR2GrF
import Derived.Test.YtheckaonphmmiaaSkR2GrGF
set_option linter.unusedVariables false
set_option linter.unusedSimpArgs false
namespace Go.SK
open Go Go.Proofs
open Go.RowKit
theorem R2gr_Of2 {op : Int} {fm : FormL} {ob : Bool} (h0 : 0 ≤ op) (hfm : refD op = fm) (hob : (refS op).isSome = ob) (w : World) : Ret Try.prog 19 #[.int .u16 op] w fun v w' => v = .tuple #[.agg (formC fm).toArray, .bool ob] ∧ St w NoM [] [] w' := by
  subst hfm; subst hob; exact R2gr_Of op h0 w
theorem R2ref_Of2 {op : Int} {fm : FormL} {ob : Bool} (hfm : refD op = fm) (hob : (refS op).isSome = ob) (w : World) : Ret Try.prog 18 #[.int .u16 op] w fun v w' => v = .tuple #[.agg (formC fm).toArray, .bool ob] ∧ St w NoM [] [] w' := by
  subst hfm; subst hob; exact R2ref_Of op w
theorem R2gr_Named2 {q : Byts} {f : FormL} (h : refT.find? (nmF q) = some f) (w : World) : Ret Try.prog 23 #[str q] w fun v w' => v = .tuple #[.agg (formC f).toArray, .bool true] ∧ St w NoM [] [] w' := by
  have := R2gr_Named q w
  rw [h] at this; exact this
theorem R2gr_Enum2 {c n : Int} {o : Option NameL} (h : namesL.find? (enN c n) = o) (h0 : 0 ≤ c) (h1 : c ≤ 255) (w : World) : Ret Try.prog 15 #[.int .u8 c, .int .u32 n] w fun v w' => v = nameV o ∧ St w NoM [] [] w' := by
  subst h; exact R2gr_Enum c n h0 h1 w
theorem R2gr_EnumNamed2 {c : Int} {q : Byts} {o : Option NameL} (h : namesL.find? (enS c q) = o) (h0 : 0 ≤ c) (h1 : c ≤ 255) (w : World) : Ret Try.prog 17 #[.int .u8 c, str q] w fun v w' => v = numV o ∧ St w NoM [] [] w' := by
  subst h; exact R2gr_EnumNamed c q h0 h1 w
theorem R2ref_Letter (op : Int) (h0 : 0 ≤ op) (i : Int) (h1 : i ≤ 9223372036854775807) (w : World) : Ret Try.prog 25 #[.int .u16 op, .int .i64 i] w (fun v w' => v = .int .u8 (letterS (refD op) i) ∧ St w NoM [] [] w') := by
  refine Ret.enter (args := [.int .u16 op, .int .i64 i]) Try.func25 rfl rfl rfl ?_
  have hst := St.init w
  obtain ⟨fm, hfm⟩ : ∃ x, refD op = x := ⟨_, rfl⟩
  obtain ⟨ob, hob⟩ : ∃ x, (refS op).isSome = x := ⟨_, rfl⟩
  have hf := refD_fok op
  rw [hfm] at hf
  have hz : ob = false → fm = zeroF := fun e => by subst e; rw [← hfm]; exact refD_none hob
  obtain ⟨_, hmost, hfx, hrs, _, _, _, _⟩ := hf
  have hre : fm.rest = [] ↔ fm.rest.length = 0 := List.length_eq_zero_iff.symm
  refine run_seq ?_
  refine run_region ?_
  refine RunL.cons (Op1.assign (v := .int .u8 _) rfl ?_)
  refine RunL.nil ?_
  refine run_seq ?_
  refine run_region ?_
  refine RunL.cons (Op1.move (v := .int .u16 _) rfl ?_)
  refine RunL.cons (Op1.call1 (v1 := .int .u16 _) ent18 rfl rfl ((R2ref_Of2 hfm hob _).mono fun v w hp => ?_))
  obtain ⟨rfl, hp⟩ := hp
  replace hst := hst.keepc hp
  clear hp
  refine RunL.cons (Op1.move (v := .tuple #[.agg #[.int .u16 _, str _, .bool _, .bool _, str _, str _, .int .i64 _, .int .u8 _], .bool _]) rfl ?_)
  refine RunL.cons (Op1.extract (v := .agg #[.int .u16 _, str _, .bool _, .bool _, str _, str _, .int .i64 _, .int .u8 _]) rfl rfl ?_)
  refine RunL.cons (Op1.extract (v := .bool _) rfl rfl ?_)
  refine RunL.cons (Op1.alloc hst ty38 fun w b5 hst => ?_)
  refine RunL.cons (Op1.store (v := .agg #[.int .u16 _, str _, .bool _, .bool _, str _, str _, .int .i64 _, .int .u8 _]) hst ty38 rfl rfl rfl rfl rfl (.here) (by repeat (first | exact Put.nil | apply Put.put | apply Put.skip)) fun w hst => ?_)
  refine RunL.cons (Op1.assign (v := .bool _) rfl ?_)
  refine RunL.nil ?_
  refine run_seq ?_
  refine run_seq ?_
  refine run_region ?_
  refine RunL.cons (Op1.move (v := .bool _) rfl ?_)
  refine RunL.cons (Op1.not rfl ?_)
  refine RunL.cons (Op1.move (v := .bool _) rfl ?_)
  refine RunL.split (d := 15) rfl (fun g1 => ?_) (fun g1 => ?_)
  · skip
    refine RunL.omit (t := 15) rfl (congrArg Value.bool g1) rfl ?_
    refine RunL.omit (t := 15) rfl (congrArg Value.bool g1) rfl ?_
    refine RunL.cons (Op1.pickT (u := .bool _) (congrArg Value.bool g1) rfl ?_)
    refine RunL.nil ?_
    refine run_cond_true (congrArg Value.bool (rfl : true = _)) ?_
    refine run_seq ?_
    refine run_region ?_
    refine RunL.cons (Op1.assign (v := .int .u8 _) rfl ?_)
    refine RunL.nil ?_
    refine run_ret1 Try.func25 rfl (RV.tmp (v := .int .u8 _) rfl) ?_
    refine ⟨congrArg (Value.int .u8) (Eq.symm ?_), hst.pure⟩
    rw [hfm]
    have hzz : fm = zeroF ∨ i < 0 := .inl (hz (by simpa using g1))
    rcases hzz with rfl | hzz
    · exact letter_zero i
    · unfold letterS; rw [if_pos hzz]
  refine RunL.take (t := 15) rfl (congrArg Value.bool g1) (Op1.move (v := .int .i64 _) rfl ?_)
  refine RunL.take (t := 15) rfl (congrArg Value.bool g1) (Op1.lss rfl rfl ?_)
  refine RunL.cons (Op1.pickF (u := .bool _) (congrArg Value.bool g1) rfl ?_)
  refine RunL.nil ?_
  refine run_cond_dec rfl (fun g2 => ?_) (fun g2 => ?_)
  · skip
    refine run_seq ?_
    refine run_region ?_
    refine RunL.cons (Op1.assign (v := .int .u8 _) rfl ?_)
    refine RunL.nil ?_
    refine run_ret1 Try.func25 rfl (RV.tmp (v := .int .u8 _) rfl) ?_
    refine ⟨congrArg (Value.int .u8) (Eq.symm ?_), hst.pure⟩
    rw [hfm]
    have hzz : fm = zeroF ∨ i < 0 := .inr (by omega)
    rcases hzz with rfl | hzz
    · exact letter_zero i
    · unfold letterS; rw [if_pos hzz]
  refine run_skip ?_
  refine run_seq ?_
  refine run_seq ?_
  refine run_region ?_
  refine RunL.cons (Op1.move (v := .int .i64 _) rfl ?_)
  refine RunL.cons (Op1.fieldAddr fld38_4 rfl ?_)
  refine RunL.cons (Op1.load1 (v := str _) ty9 rfl rfl (hst.cellL (.head _) rfl) ?_)
  refine RunL.cons (Op1.lenS (rest := []) ty9 rfl ?_)
  refine RunL.cons (Op1.lss rfl rfl ?_)
  refine RunL.nil ?_
  refine Run.forget [(1, .int .i64 _), (5, .pointer (some ⟨_, _, none⟩)), (23, .bool _)] ⟨rfl, rfl, rfl, trivial⟩ (fun f => ?_)
  refine run_cond_dec rfl (fun g3 => ?_) (fun g3 => ?_)
  · skip
    refine run_seq ?_
    refine run_region ?_
    refine RunL.cons (Op1.fieldAddr fld38_4 rfl ?_)
    refine RunL.cons (Op1.load1 (v := str _) ty9 rfl rfl (hst.cellL (.head _) rfl) ?_)
    refine RunL.cons (Op1.move (v := .int .i64 _) rfl ?_)
    refine RunL.cons (Op1.indexS ty9 rfl rfl (by omega) (by omega) ?_)
    refine RunL.cons (Op1.assign (v := .int .u8 _) rfl ?_)
    refine RunL.nil ?_
    refine run_ret1 Try.func25 rfl (RV.tmp (v := .int .u8 _) rfl) ?_
    refine ⟨congrArg (Value.int .u8) (Eq.symm ?_), hst.pure⟩
    rw [hfm]
    unfold letterS
    rw [if_neg (by omega), if_pos (by omega)]
  refine run_skip ?_
  refine run_seq ?_
  refine run_seq ?_
  refine run_region ?_
  refine RunL.cons (Op1.fieldAddr fld38_5 rfl ?_)
  refine RunL.cons (Op1.load1 (v := str _) ty9 rfl rfl (hst.cellL (.head _) rfl) ?_)
  refine RunL.cons (Op1.lenS (rest := []) ty9 rfl ?_)
  refine RunL.cons (Op1.eql rfl rfl ?_)
  refine RunL.nil ?_
  refine run_cond_dec rfl (fun g4 => ?_) (fun g4 => ?_)
  · skip
    refine run_seq ?_
    refine run_region ?_
    refine RunL.cons (Op1.assign (v := .int .u8 _) rfl ?_)
    refine RunL.nil ?_
    refine run_ret1 Try.func25 rfl (RV.tmp (v := .int .u8 _) rfl) ?_
    refine ⟨congrArg (Value.int .u8) (Eq.symm ?_), hst.pure⟩
    rw [hfm]
    unfold letterS restS
    rw [if_neg (by omega), if_neg (by omega), if_pos (by rw [hre]; omega)]
  refine run_skip ?_
  refine run_seq ?_
  refine run_region ?_
  refine RunL.cons (Op1.move (v := .int .i64 _) rfl ?_)
  refine RunL.cons (Op1.fieldAddr fld38_4 rfl ?_)
  refine RunL.cons (Op1.load1 (v := str _) ty9 rfl rfl (hst.cellL (.head _) rfl) ?_)
  refine RunL.cons (Op1.lenS (rest := []) ty9 rfl ?_)
  refine RunL.cons (Op1.subN rfl rfl rfl (wrap_i64 (by omega) (by omega)) ?_)
  refine RunL.cons (Op1.assign (v := .int .i64 _) rfl ?_)
  refine RunL.nil ?_
  refine run_seq ?_
  refine run_seq ?_
  have hqb := div_bd (a := i - (fm.fixed.length : Int)) (b := (fm.rest.length : Int)) (by omega) (by omega)
  refine RunD.start [] hst (bs := [0, 1, 3, 7, 15, 15, 47, 111, 255, 15, 527, 2047, 4095]) (ds := [some 37, some 38, some 39, some 40, some 41, some 42, some 43, some 44, some 45, some 46, some 47, some 48, some 49]) ⟨by kernel_rfl, by kernel_rfl, by kernel_rfl⟩ (fun tab5 => ?_)
  refine RunD.op (det _) tab5 1 (fun f' L' w' hc => Op1.fieldAddr fld38_6 (hc.old (v := .pointer (some ⟨_, _, none⟩)) rfl rfl rfl) ⟨[], ⟨rfl, rfl⟩, hc.st⟩) ?_
  refine RunD.op (det _) tab5 2 (fun f' L' w' hc => Op1.load1 (v := .int .i64 _) ty3 rfl (hc.det (j := 0) rfl rfl rfl rfl) (hc.st.cellL (List.mem_append_right _ (.head _)) rfl) ⟨[], ⟨rfl, rfl⟩, hc.st⟩) ?_
  refine RunD.op (det _) tab5 3 (fun f' L' w' hc => Op1.gtr (hc.det (j := 1) rfl rfl rfl rfl) rfl ⟨[], ⟨rfl, rfl⟩, hc.st⟩) ?_
  refine RunD.op (det _) tab5 4 (fun f' L' w' hc => Op1.move (v := .bool _) (hc.det (j := 2) rfl rfl rfl rfl) ⟨[], ⟨rfl, rfl⟩, hc.st⟩) ?_
  refine RunD.splitD (j := 3) rfl (fun g6 => ?_) (fun g6 => ?_)
  · skip
    refine RunD.take (det _) tab5 5 rfl (fun f' L' w' hc => (hc.det (j := 3) rfl rfl rfl rfl).trans (congrArg Value.bool (decide_eq_true g6))) (fun f' L' w' hc => Op1.move (v := .int .i64 _) (hc.old (v := .int .i64 _) rfl rfl rfl) ⟨[], ⟨rfl, rfl⟩, hc.st⟩) ?_
    refine RunD.take (det _) tab5 6 rfl (fun f' L' w' hc => (hc.det (j := 3) rfl rfl rfl rfl).trans (congrArg Value.bool (decide_eq_true g6))) (fun f' L' w' hc => Op1.fieldAddr fld38_5 (hc.old (v := .pointer (some ⟨_, _, none⟩)) rfl rfl rfl) ⟨[], ⟨rfl, rfl⟩, hc.st⟩) ?_
    refine RunD.take (det _) tab5 7 rfl (fun f' L' w' hc => (hc.det (j := 3) rfl rfl rfl rfl).trans (congrArg Value.bool (decide_eq_true g6))) (fun f' L' w' hc => Op1.load1 (v := str _) ty9 rfl (hc.det (j := 5) rfl rfl rfl rfl) (hc.st.cellL (List.mem_append_right _ (.head _)) rfl) ⟨[], ⟨rfl, rfl⟩, hc.st⟩) ?_
    refine RunD.take (det _) tab5 8 rfl (fun f' L' w' hc => (hc.det (j := 3) rfl rfl rfl rfl).trans (congrArg Value.bool (decide_eq_true g6))) (fun f' L' w' hc => Op1.lenS (rest := []) ty9 (hc.det (j := 6) rfl rfl rfl rfl) ⟨[], ⟨rfl, rfl⟩, hc.st⟩) ?_
    first | refine RunD.take (det _) tab5 9 rfl (fun f' L' w' hc => (hc.det (j := 3) rfl rfl rfl rfl).trans (congrArg Value.bool (decide_eq_true g6))) (fun f' L' w' hc => Op1.quoN (hc.det (j := 4) rfl rfl rfl rfl) (hc.det (j := 7) rfl rfl rfl rfl) (by omega) (by omega) rfl (wrap_i64 (by omega) (by omega)) ⟨[], ⟨rfl, rfl⟩, hc.st⟩) ?_ | refine RunD.take (det _) tab5 9 rfl (fun f' L' w' hc => (hc.det (j := 3) rfl rfl rfl rfl).trans (congrArg Value.bool (decide_eq_true g6))) (fun f' L' w' hc => Op1.quo (hc.det (j := 4) rfl rfl rfl rfl) (hc.det (j := 7) rfl rfl rfl rfl) (by omega) ⟨[], ⟨rfl, rfl⟩, hc.st⟩) ?_
    refine RunD.take (det _) tab5 10 rfl (fun f' L' w' hc => (hc.det (j := 3) rfl rfl rfl rfl).trans (congrArg Value.bool (decide_eq_true g6))) (fun f' L' w' hc => Op1.fieldAddr fld38_6 (hc.old (v := .pointer (some ⟨_, _, none⟩)) rfl rfl rfl) ⟨[], ⟨rfl, rfl⟩, hc.st⟩) ?_
    refine RunD.take (det _) tab5 11 rfl (fun f' L' w' hc => (hc.det (j := 3) rfl rfl rfl rfl).trans (congrArg Value.bool (decide_eq_true g6))) (fun f' L' w' hc => Op1.load1 (v := .int .i64 _) ty3 rfl (hc.det (j := 9) rfl rfl rfl rfl) (hc.st.cellL (List.mem_append_right _ (.head _)) rfl) ⟨[], ⟨rfl, rfl⟩, hc.st⟩) ?_
    refine RunD.fin followsMixed tab5 hst rfl (fun f7 w R10 hs8 hd9 hr11 hst => ?_)
    obtain ⟨h37_, r0⟩ := hd9 0 37 rfl rfl
    obtain ⟨h38_, r1⟩ := hd9 1 38 rfl rfl
    obtain ⟨h39_, r2⟩ := hd9 2 39 rfl rfl
    obtain ⟨h40_, r3⟩ := hd9 3 40 rfl rfl
    obtain ⟨h41_, r4⟩ := hd9 4 41 rfl rfl
    obtain ⟨h42_, r5⟩ := hd9 5 42 rfl rfl
    obtain ⟨h43_, r6⟩ := hd9 6 43 rfl rfl
    obtain ⟨h44_, r7⟩ := hd9 7 44 rfl rfl
    obtain ⟨h45_, r8⟩ := hd9 8 45 rfl rfl
    obtain ⟨h46_, r9⟩ := hd9 9 46 rfl rfl
    obtain ⟨h47_, r10⟩ := hd9 10 47 rfl rfl
    simp only [show List.range 11 = [0, 1, 2, 3, 4, 5, 6, 7, 8, 9, 10] from rfl, List.flatMap_cons, List.flatMap_nil, List.map_cons, List.map_nil, r0, r1, r2, r3, r4, r5, r6, r7, r8, r9, r10, List.nil_append, List.append_nil, List.cons_append] at hst
    refine RunL.slots (sl := [(5, .pointer (some ⟨_, _, none⟩)), (7, .int .i64 _), (40, .bool _), (45, .int .i64 _), (47, .int .i64 _)]) ⟨(hs8 5 rfl).trans rfl, (hs8 7 rfl).trans rfl, h40_, h45_, h47_, trivial⟩ ?_
    clear hs8 hd9 hr11 tab5
    refine RunL.take (t := 40) rfl (congrArg Value.bool (decide_eq_true g6)) (Op1.geq rfl rfl ?_)
    refine RunL.cons (Op1.pickT (u := .bool _) (congrArg Value.bool (decide_eq_true g6)) rfl ?_)
    refine RunL.nil ?_
    refine Run.forget [(5, .pointer (some ⟨_, _, none⟩)), (7, .int .i64 _), (49, .bool _)] ⟨rfl, rfl, rfl, trivial⟩ (fun f => ?_)
    refine run_cond_dec rfl (fun g12 => ?_) (fun g12 => ?_)
    · skip
      refine run_seq ?_
      refine run_region ?_
      refine RunL.cons (Op1.assign (v := .int .u8 _) rfl ?_)
      refine RunL.nil ?_
      refine run_ret1 Try.func25 rfl (RV.tmp (v := .int .u8 _) rfl) ?_
      refine ⟨congrArg (Value.int .u8) (Eq.symm ?_), hst.pure⟩
      rw [hfm]
      unfold letterS restS
      rw [if_neg (by omega), if_neg (by omega)]
      have hmd := most_div (k := i - (fm.fixed.length : Int)) (r := (fm.rest.length : Int)) (m := fm.most) (by omega)
      first | rw [if_pos (by rw [hre]; omega)] | rw [if_neg (by rw [hre]; omega)]
    have hmdd := Int.emod_lt_of_pos (i - (fm.fixed.length : Int)) (show (0 : Int) < fm.rest.length by omega)
    have hmnn := Int.emod_nonneg (i - (fm.fixed.length : Int)) (show (fm.rest.length : Int) ≠ 0 by omega)
    refine run_skip ?_
    refine run_seq ?_
    refine RunD.start [] hst (bs := [0, 1, 0, 0, 8, 24, 60, 127, 255]) (ds := [some 50, some 51, some 52, some 53, some 54, some 55, some 56, some 57, some 4]) ⟨by kernel_rfl, by kernel_rfl, by kernel_rfl⟩ (fun tab13 => ?_)
    refine RunD.op (det _) tab13 1 (fun f' L' w' hc => Op1.fieldAddr fld38_5 (hc.old (v := .pointer (some ⟨_, _, none⟩)) rfl rfl rfl) ⟨[], ⟨rfl, rfl⟩, hc.st⟩) ?_
    refine RunD.op (det _) tab13 2 (fun f' L' w' hc => Op1.load1 (v := str _) ty9 rfl (hc.det (j := 0) rfl rfl rfl rfl) (hc.st.cellL (List.mem_append_right _ (.head _)) rfl) ⟨[], ⟨rfl, rfl⟩, hc.st⟩) ?_
    refine RunD.op (det _) tab13 3 (fun f' L' w' hc => Op1.move (v := .int .i64 _) (hc.old (v := .int .i64 _) rfl rfl rfl) ⟨[], ⟨rfl, rfl⟩, hc.st⟩) ?_
    refine RunD.op (det _) tab13 4 (fun f' L' w' hc => Op1.fieldAddr fld38_5 (hc.old (v := .pointer (some ⟨_, _, none⟩)) rfl rfl rfl) ⟨[], ⟨rfl, rfl⟩, hc.st⟩) ?_
    refine RunD.op (det _) tab13 5 (fun f' L' w' hc => Op1.load1 (v := str _) ty9 rfl (hc.det (j := 3) rfl rfl rfl rfl) (hc.st.cellL (List.mem_append_right _ (.head _)) rfl) ⟨[], ⟨rfl, rfl⟩, hc.st⟩) ?_
    refine RunD.op (det _) tab13 6 (fun f' L' w' hc => Op1.lenS (rest := []) ty9 (hc.det (j := 4) rfl rfl rfl rfl) ⟨[], ⟨rfl, rfl⟩, hc.st⟩) ?_
    first | refine RunD.op (det _) tab13 7 (fun f' L' w' hc => Op1.remN (hc.det (j := 2) rfl rfl rfl rfl) (hc.det (j := 5) rfl rfl rfl rfl) (by omega) (by omega) rfl ⟨[], ⟨rfl, rfl⟩, hc.st⟩) ?_ | refine RunD.op (det _) tab13 7 (fun f' L' w' hc => Op1.rem (hc.det (j := 2) rfl rfl rfl rfl) (hc.det (j := 5) rfl rfl rfl rfl) (by omega) ⟨[], ⟨rfl, rfl⟩, hc.st⟩) ?_
    refine RunD.fin followsMixed tab13 hst rfl (fun f14 w R17 hs15 hd16 hr18 hst => ?_)
    obtain ⟨h50_, r0⟩ := hd16 0 50 rfl rfl
    obtain ⟨h51_, r1⟩ := hd16 1 51 rfl rfl
    obtain ⟨h52_, r2⟩ := hd16 2 52 rfl rfl
    obtain ⟨h53_, r3⟩ := hd16 3 53 rfl rfl
    obtain ⟨h54_, r4⟩ := hd16 4 54 rfl rfl
    obtain ⟨h55_, r5⟩ := hd16 5 55 rfl rfl
    obtain ⟨h56_, r6⟩ := hd16 6 56 rfl rfl
    simp only [show List.range 7 = [0, 1, 2, 3, 4, 5, 6] from rfl, List.flatMap_cons, List.flatMap_nil, List.map_cons, List.map_nil, r0, r1, r2, r3, r4, r5, r6, List.nil_append, List.append_nil, List.cons_append] at hst
    refine RunL.slots (sl := [(51, str _), (56, .int .i64 _)]) ⟨h51_, h56_, trivial⟩ ?_
    clear hs15 hd16 hr18 tab13
    refine RunL.cons (Op1.indexS ty9 rfl rfl (by omega) (by omega) ?_)
    refine RunL.cons (Op1.assign (v := .int .u8 _) rfl ?_)
    refine RunL.nil ?_
    refine run_ret1 Try.func25 rfl (RV.tmp (v := .int .u8 _) rfl) ?_
    refine ⟨congrArg (Value.int .u8) (Eq.symm ?_), hst.pure⟩
    rw [hfm]
    unfold letterS restS
    rw [if_neg (by omega), if_neg (by omega)]
    have hmd := most_div (k := i - (fm.fixed.length : Int)) (r := (fm.rest.length : Int)) (m := fm.most) (by omega)
    first | rw [if_pos (by rw [hre]; omega)] | rw [if_neg (by rw [hre]; omega)]
  refine RunD.omit tab5 5 rfl rfl (fun f' L' w' hc => (hc.det (j := 3) rfl rfl rfl rfl).trans (congrArg Value.bool (decide_eq_false g6))) ?_
  refine RunD.omit tab5 6 rfl rfl (fun f' L' w' hc => (hc.det (j := 3) rfl rfl rfl rfl).trans (congrArg Value.bool (decide_eq_false g6))) ?_
  refine RunD.omit tab5 7 rfl rfl (fun f' L' w' hc => (hc.det (j := 3) rfl rfl rfl rfl).trans (congrArg Value.bool (decide_eq_false g6))) ?_
  refine RunD.omit tab5 8 rfl rfl (fun f' L' w' hc => (hc.det (j := 3) rfl rfl rfl rfl).trans (congrArg Value.bool (decide_eq_false g6))) ?_
  refine RunD.omit tab5 9 rfl rfl (fun f' L' w' hc => (hc.det (j := 3) rfl rfl rfl rfl).trans (congrArg Value.bool (decide_eq_false g6))) ?_
  refine RunD.omit tab5 10 rfl rfl (fun f' L' w' hc => (hc.det (j := 3) rfl rfl rfl rfl).trans (congrArg Value.bool (decide_eq_false g6))) ?_
  refine RunD.omit tab5 11 rfl rfl (fun f' L' w' hc => (hc.det (j := 3) rfl rfl rfl rfl).trans (congrArg Value.bool (decide_eq_false g6))) ?_
  refine RunD.fin followsMixed tab5 hst rfl (fun f19 w R22 hs20 hd21 hr23 hst => ?_)
  obtain ⟨h37_, r0⟩ := hd21 0 37 rfl rfl
  obtain ⟨h38_, r1⟩ := hd21 1 38 rfl rfl
  obtain ⟨h39_, r2⟩ := hd21 2 39 rfl rfl
  obtain ⟨h40_, r3⟩ := hd21 3 40 rfl rfl
  obtain ⟨h41_, r4⟩ := hd21 4 41 rfl rfl
  obtain ⟨h42_, r5⟩ := hd21 5 42 rfl rfl
  obtain ⟨h43_, r6⟩ := hd21 6 43 rfl rfl
  obtain ⟨h44_, r7⟩ := hd21 7 44 rfl rfl
  obtain ⟨h45_, r8⟩ := hd21 8 45 rfl rfl
  obtain ⟨h46_, r9⟩ := hd21 9 46 rfl rfl
  obtain ⟨h47_, r10⟩ := hd21 10 47 rfl rfl
  simp only [show List.range 11 = [0, 1, 2, 3, 4, 5, 6, 7, 8, 9, 10] from rfl, List.flatMap_cons, List.flatMap_nil, List.map_cons, List.map_nil, r0, r1, r2, r3, r4, r5, r6, r7, r8, r9, r10, List.nil_append, List.append_nil, List.cons_append] at hst
  refine RunL.slots (sl := [(5, .pointer (some ⟨_, _, none⟩)), (7, .int .i64 _), (40, .bool _), (45, _), (47, _)]) ⟨(hs20 5 rfl).trans rfl, (hs20 7 rfl).trans rfl, h40_, h45_, h47_, trivial⟩ ?_
  clear hs20 hd21 hr23 tab5
  refine RunL.omit (t := 40) rfl (congrArg Value.bool (decide_eq_false g6)) rfl ?_
  refine RunL.cons (Op1.pickF (u := .bool _) (congrArg Value.bool (decide_eq_false g6)) rfl ?_)
  refine RunL.nil ?_
  have hmdd := Int.emod_lt_of_pos (i - (fm.fixed.length : Int)) (show (0 : Int) < fm.rest.length by omega)
  have hmnn := Int.emod_nonneg (i - (fm.fixed.length : Int)) (show (fm.rest.length : Int) ≠ 0 by omega)
  refine run_cond_false (congrArg Value.bool (rfl : false = _)) ?_
  refine run_skip ?_
  refine run_seq ?_
  refine RunD.start [] hst (bs := [0, 1, 0, 0, 8, 24, 60, 127, 255]) (ds := [some 50, some 51, some 52, some 53, some 54, some 55, some 56, some 57, some 4]) ⟨by kernel_rfl, by kernel_rfl, by kernel_rfl⟩ (fun tab24 => ?_)
  refine RunD.op (det _) tab24 1 (fun f' L' w' hc => Op1.fieldAddr fld38_5 (hc.old (v := .pointer (some ⟨_, _, none⟩)) rfl rfl rfl) ⟨[], ⟨rfl, rfl⟩, hc.st⟩) ?_
  refine RunD.op (det _) tab24 2 (fun f' L' w' hc => Op1.load1 (v := str _) ty9 rfl (hc.det (j := 0) rfl rfl rfl rfl) (hc.st.cellL (List.mem_append_right _ (.head _)) rfl) ⟨[], ⟨rfl, rfl⟩, hc.st⟩) ?_
  refine RunD.op (det _) tab24 3 (fun f' L' w' hc => Op1.move (v := .int .i64 _) (hc.old (v := .int .i64 _) rfl rfl rfl) ⟨[], ⟨rfl, rfl⟩, hc.st⟩) ?_
  refine RunD.op (det _) tab24 4 (fun f' L' w' hc => Op1.fieldAddr fld38_5 (hc.old (v := .pointer (some ⟨_, _, none⟩)) rfl rfl rfl) ⟨[], ⟨rfl, rfl⟩, hc.st⟩) ?_
  refine RunD.op (det _) tab24 5 (fun f' L' w' hc => Op1.load1 (v := str _) ty9 rfl (hc.det (j := 3) rfl rfl rfl rfl) (hc.st.cellL (List.mem_append_right _ (.head _)) rfl) ⟨[], ⟨rfl, rfl⟩, hc.st⟩) ?_
  refine RunD.op (det _) tab24 6 (fun f' L' w' hc => Op1.lenS (rest := []) ty9 (hc.det (j := 4) rfl rfl rfl rfl) ⟨[], ⟨rfl, rfl⟩, hc.st⟩) ?_
  first | refine RunD.op (det _) tab24 7 (fun f' L' w' hc => Op1.remN (hc.det (j := 2) rfl rfl rfl rfl) (hc.det (j := 5) rfl rfl rfl rfl) (by omega) (by omega) rfl ⟨[], ⟨rfl, rfl⟩, hc.st⟩) ?_ | refine RunD.op (det _) tab24 7 (fun f' L' w' hc => Op1.rem (hc.det (j := 2) rfl rfl rfl rfl) (hc.det (j := 5) rfl rfl rfl rfl) (by omega) ⟨[], ⟨rfl, rfl⟩, hc.st⟩) ?_
  refine RunD.fin followsMixed tab24 hst rfl (fun f25 w R28 hs26 hd27 hr29 hst => ?_)
  obtain ⟨h50_, r0⟩ := hd27 0 50 rfl rfl
  obtain ⟨h51_, r1⟩ := hd27 1 51 rfl rfl
  obtain ⟨h52_, r2⟩ := hd27 2 52 rfl rfl
  obtain ⟨h53_, r3⟩ := hd27 3 53 rfl rfl
  obtain ⟨h54_, r4⟩ := hd27 4 54 rfl rfl
  obtain ⟨h55_, r5⟩ := hd27 5 55 rfl rfl
  obtain ⟨h56_, r6⟩ := hd27 6 56 rfl rfl
  simp only [show List.range 7 = [0, 1, 2, 3, 4, 5, 6] from rfl, List.flatMap_cons, List.flatMap_nil, List.map_cons, List.map_nil, r0, r1, r2, r3, r4, r5, r6, List.nil_append, List.append_nil, List.cons_append] at hst
  refine RunL.slots (sl := [(51, str _), (56, .int .i64 _)]) ⟨h51_, h56_, trivial⟩ ?_
  clear hs26 hd27 hr29 tab24
  refine RunL.cons (Op1.indexS ty9 rfl rfl (by omega) (by omega) ?_)
  refine RunL.cons (Op1.assign (v := .int .u8 _) rfl ?_)
  refine RunL.nil ?_
  refine run_ret1 Try.func25 rfl (RV.tmp (v := .int .u8 _) rfl) ?_
  refine ⟨congrArg (Value.int .u8) (Eq.symm ?_), hst.pure⟩
  rw [hfm]
  unfold letterS restS
  rw [if_neg (by omega), if_neg (by omega)]
  have hmd := most_div (k := i - (fm.fixed.length : Int)) (r := (fm.rest.length : Int)) (m := fm.most) (by omega)
  first | rw [if_pos (by rw [hre]; omega)] | rw [if_neg (by rw [hre]; omega)]

theorem R2law_GrammarLetters (op i c : Int) (h0 : 0 ≤ op) (h1 : i ≤ 9223372036854775807) (hc0 : 0 ≤ c) (hc1 : c ≤ 255) (w : World) : Ret Try.prog 8 #[.int .u16 op, .int .i64 i, .int .u8 c] w (fun v w' => v = .bool true ∧ St w NoM [] [] w') := by
  refine Ret.enter (args := [.int .u16 op, .int .i64 i, .int .u8 c]) Try.func8 rfl rfl rfl ?_
  have hst := St.init w
  refine run_seq ?_
  refine run_region ?_
  refine RunL.cons (Op1.assign (v := .bool _) rfl ?_)
  refine RunL.nil ?_
  refine run_seq ?_
  refine run_region ?_
  refine RunL.cons (Op1.move (v := .int .u16 _) rfl ?_)
  refine RunL.cons (Op1.move (v := .int .i64 _) rfl ?_)
  refine RunL.cons (Op1.call2 (v1 := .int .u16 _) (v2 := .int .i64 _) ent24 rfl rfl rfl ((R2gr_Letter _ (by omega) _ (by omega) _).mono fun v w hp => ?_))
  obtain ⟨rfl, hp⟩ := hp
  replace hst := hst.keepc hp
  clear hp
  refine RunL.cons (Op1.move (v := .int .u16 _) rfl ?_)
  refine RunL.cons (Op1.move (v := .int .i64 _) rfl ?_)
  refine RunL.cons (Op1.call2 (v1 := .int .u16 _) (v2 := .int .i64 _) ent25 rfl rfl rfl ((R2ref_Letter _ (by omega) _ (by omega) _).mono fun v w hp => ?_))
  obtain ⟨rfl, hp⟩ := hp
  replace hst := hst.keepc hp
  clear hp
  refine RunL.cons (Op1.eql rfl rfl ?_)
  refine RunL.cons (Op1.move (v := .bool _) rfl ?_)
  refine RunL.splitD (d := 14) rfl (fun g1 => ?_) (fun g1 => ?_)
  · skip
    refine RunL.take (t := 14) rfl (congrArg Value.bool (decide_eq_true g1)) (Op1.move (v := .int .u8 _) rfl ?_)
    refine RunL.take (t := 14) rfl (congrArg Value.bool (decide_eq_true g1)) (Op1.call1 (v1 := .int .u8 _) ent26 rfl rfl ((R2gr_Kind _ _).mono fun v w hp => ?_))
    obtain ⟨rfl, hp⟩ := hp
    replace hst := hst.keepc hp
    clear hp
    refine RunL.take (t := 14) rfl (congrArg Value.bool (decide_eq_true g1)) (Op1.move (v := .int .u8 _) rfl ?_)
    refine RunL.take (t := 14) rfl (congrArg Value.bool (decide_eq_true g1)) (Op1.call1 (v1 := .int .u8 _) ent27 rfl rfl ((R2ref_Kind _ (by omega) (by omega) _).mono fun v w hp => ?_))
    obtain ⟨rfl, hp⟩ := hp
    replace hst := hst.keepc hp
    clear hp
    refine RunL.take (t := 14) rfl (congrArg Value.bool (decide_eq_true g1)) (Op1.eql rfl rfl ?_)
    refine RunL.cons (Op1.pickT (u := .bool _) (congrArg Value.bool (decide_eq_true g1)) rfl ?_)
    refine RunL.cons (Op1.assign (v := .bool _) rfl ?_)
    refine RunL.nil ?_
    refine run_ret1 Try.func8 rfl (RV.tmp (v := .bool _) rfl) ?_
    exact ⟨congrArg Value.bool (decide_eq_true rfl), hst.pure⟩
  exfalso
  exact g1 rfl

theorem R2law_GrammarBack (op c n : Int) (h0 : 0 ≤ op) (hc0 : 0 ≤ c) (hc1 : c ≤ 255) (w : World) : Ret Try.prog 11 #[.int .u16 op, .int .u8 c, .int .u32 n] w (fun v w' => v = .bool true ∧ St w NoM [] [] w') := by
  refine Ret.enter (args := [.int .u16 op, .int .u8 c, .int .u32 n]) Try.func11 rfl rfl rfl ?_
  have hst := St.init w
  obtain ⟨fm, hfm⟩ : ∃ x, refD op = x := ⟨_, rfl⟩
  obtain ⟨ob, hob⟩ : ∃ x, (refS op).isSome = x := ⟨_, rfl⟩
  have hf := refD_fok op
  rw [hfm] at hf
  have hz : ob = false → fm = zeroF := fun e => by subst e; rw [← hfm]; exact refD_none hob
  obtain ⟨o, ho⟩ : ∃ o, namesL.find? (enN c n) = o := ⟨_, rfl⟩
  have hname : ob = true → refT.find? (nmF fm.name) = some fm ∧ fm.op = op := fun e => by subst e; rw [← hfm]; exact refD_some hob
  refine run_seq ?_
  refine run_region ?_
  refine RunL.cons (Op1.assign (v := .bool _) rfl ?_)
  refine RunL.nil ?_
  refine run_seq ?_
  refine run_region ?_
  refine RunL.cons (Op1.call1 (v1 := str _) ent23 rfl rfl ((R2gr_Named2 (find_IAdd.1.trans find_IAdd.2) _).mono fun v w hp => ?_))
  obtain ⟨rfl, hp⟩ := hp
  replace hst := hst.keepc hp
  clear hp
  refine RunL.cons (Op1.move (v := .tuple #[.agg #[.int .u16 _, str _, .bool _, .bool _, str _, str _, .int .i64 _, .int .u8 _], .bool _]) rfl ?_)
  refine RunL.cons (Op1.extract (v := .agg #[.int .u16 _, str _, .bool _, .bool _, str _, str _, .int .i64 _, .int .u8 _]) rfl rfl ?_)
  refine RunL.cons (Op1.extract (v := .bool _) rfl rfl ?_)
  refine RunL.cons (Op1.alloc hst ty38 fun w b7 hst => ?_)
  refine RunL.cons (Op1.store (v := .agg #[.int .u16 _, str _, .bool _, .bool _, str _, str _, .int .i64 _, .int .u8 _]) hst ty38 rfl rfl rfl rfl rfl (.here) (by repeat (first | exact Put.nil | apply Put.put | apply Put.skip)) fun w hst => ?_)
  refine RunL.cons (Op1.assign (v := .bool _) rfl ?_)
  refine RunL.nil ?_
  refine run_seq ?_
  refine run_seq ?_
  refine run_region ?_
  refine RunL.cons (Op1.move (v := .bool _) rfl ?_)
  refine RunL.cons (Op1.not rfl ?_)
  refine RunL.cons (Op1.move (v := .bool _) rfl ?_)
  refine RunL.split (d := 23) rfl (fun g1 => ?_) (fun g1 => ?_)
  · skip
    exfalso
    first | simp at g1 | exact g1 rfl | exact absurd rfl g1
  refine RunL.take (t := 23) rfl (congrArg Value.bool g1) (Op1.fieldAddr fld38_0 rfl ?_)
  refine RunL.take (t := 23) rfl (congrArg Value.bool g1) (Op1.load1 (v := .int .u16 _) ty36 rfl rfl (hst.cellL (.head _) rfl) ?_)
  refine RunL.take (t := 23) rfl (congrArg Value.bool g1) (Op1.neq rfl rfl ?_)
  refine RunL.cons (Op1.pickF (u := .bool _) (congrArg Value.bool g1) rfl ?_)
  refine RunL.cons (Op1.move (v := .bool _) rfl ?_)
  refine RunL.splitD (d := 28) rfl (fun g2 => ?_) (fun g2 => ?_)
  · skip
    exfalso
    first | simp at g2 | exact g2 rfl | exact absurd rfl g2
  refine RunL.take (t := 28) rfl (congrArg Value.bool (decide_eq_false g2)) (Op1.fieldAddr fld38_2 rfl ?_)
  refine RunL.take (t := 28) rfl (congrArg Value.bool (decide_eq_false g2)) (Op1.load1 (v := .bool _) ty4 rfl rfl (hst.cellL (.head _) rfl) ?_)
  refine RunL.take (t := 28) rfl (congrArg Value.bool (decide_eq_false g2)) (Op1.not rfl ?_)
  refine RunL.cons (Op1.pickF (u := .bool _) (congrArg Value.bool (decide_eq_false g2)) rfl ?_)
  refine RunL.cons (Op1.move (v := .bool _) rfl ?_)
  refine RunL.split (d := 33) rfl (fun g3 => ?_) (fun g3 => ?_)
  · skip
    exfalso
    first | simp at g3 | exact g3 rfl | exact absurd rfl g3
  refine RunL.take (t := 33) rfl (congrArg Value.bool g3) (Op1.fieldAddr fld38_3 rfl ?_)
  refine RunL.take (t := 33) rfl (congrArg Value.bool g3) (Op1.load1 (v := .bool _) ty4 rfl rfl (hst.cellL (.head _) rfl) ?_)
  refine RunL.take (t := 33) rfl (congrArg Value.bool g3) (Op1.not rfl ?_)
  refine RunL.cons (Op1.pickF (u := .bool _) (congrArg Value.bool g3) rfl ?_)
  refine RunL.cons (Op1.move (v := .bool _) rfl ?_)
  refine RunL.split (d := 38) rfl (fun g4 => ?_) (fun g4 => ?_)
  · skip
    exfalso
    first | simp at g4 | exact g4 rfl | exact absurd rfl g4
  refine RunL.take (t := 38) rfl (congrArg Value.bool g4) (Op1.fieldAddr fld38_4 rfl ?_)
  refine RunL.take (t := 38) rfl (congrArg Value.bool g4) (Op1.load1 (v := str _) ty9 rfl rfl (hst.cellL (.head _) rfl) ?_)
  refine RunL.take (t := 38) rfl (congrArg Value.bool g4) (Op1.neqS rfl rfl ?_)
  refine RunL.cons (Op1.pickF (u := .bool _) (congrArg Value.bool g4) rfl ?_)
  refine RunL.nil ?_
  refine Run.forget [(0, .int .u16 _), (1, .int .u8 _), (2, .int .u32 _), (42, .bool _)] ⟨rfl, rfl, rfl, rfl, trivial⟩ (fun f => ?_)
  refine run_cond_dec rfl (fun g5 => ?_) (fun g5 => ?_)
  · skip
    exfalso
    first | simp at g5 | exact g5 rfl | exact absurd rfl g5
  refine run_skip ?_
  refine run_seq ?_
  refine run_region ?_
  refine RunL.cons (Op1.move (v := .int .u16 _) rfl ?_)
  refine RunL.cons (Op1.call1 (v1 := .int .u16 _) ent19 rfl rfl ((R2gr_Of2 (by omega) hfm hob _).mono fun v w hp => ?_))
  obtain ⟨rfl, hp⟩ := hp
  replace hst := hst.keepc hp
  clear hp
  refine RunL.cons (Op1.move (v := .tuple #[.agg #[.int .u16 _, str _, .bool _, .bool _, str _, str _, .int .i64 _, .int .u8 _], .bool _]) rfl ?_)
  refine RunL.cons (Op1.extract (v := .agg #[.int .u16 _, str _, .bool _, .bool _, str _, str _, .int .i64 _, .int .u8 _]) rfl rfl ?_)
  refine RunL.cons (Op1.extract (v := .bool _) rfl rfl ?_)
  refine RunL.cons (Op1.alloc hst ty38 fun w b9 hst => ?_)
  refine RunL.cons (Op1.store (v := .agg #[.int .u16 _, str _, .bool _, .bool _, str _, str _, .int .i64 _, .int .u8 _]) hst ty38 rfl rfl rfl rfl rfl (.here) (by repeat (first | exact Put.nil | apply Put.put | apply Put.skip)) fun w hst => ?_)
  refine RunL.cons (Op1.assign (v := .bool _) rfl ?_)
  refine RunL.nil ?_
  refine run_seq ?_
  refine run_seq ?_
  refine run_region ?_
  refine RunL.cons (Op1.move (v := .bool _) rfl ?_)
  refine RunL.nil ?_
  refine run_cond_split rfl (fun g6 => ?_) (fun g6 => ?_)
  · skip
    refine run_seq ?_
    refine run_region ?_
    refine RunL.cons (Op1.fieldAddr fld38_1 rfl ?_)
    refine RunL.cons (Op1.load1 (v := str _) ty9 rfl rfl (hst.cellL (.head _) rfl) ?_)
    refine RunL.cons (Op1.call1 (v1 := str _) ent23 rfl rfl ((R2gr_Named2 (hname g6).1 _).mono fun v w hp => ?_))
    obtain ⟨rfl, hp⟩ := hp
    replace hst := hst.keepc hp
    clear hp
    refine RunL.cons (Op1.move (v := .tuple #[.agg #[.int .u16 _, str _, .bool _, .bool _, str _, str _, .int .i64 _, .int .u8 _], .bool _]) rfl ?_)
    refine RunL.cons (Op1.extract (v := .agg #[.int .u16 _, str _, .bool _, .bool _, str _, str _, .int .i64 _, .int .u8 _]) rfl rfl ?_)
    refine RunL.cons (Op1.extract (v := .bool _) rfl rfl ?_)
    refine RunL.cons (Op1.alloc hst ty38 fun w b11 hst => ?_)
    refine RunL.cons (Op1.store (v := .agg #[.int .u16 _, str _, .bool _, .bool _, str _, str _, .int .i64 _, .int .u8 _]) hst ty38 rfl rfl rfl rfl rfl (.here) (by repeat (first | exact Put.nil | apply Put.put | apply Put.skip)) fun w hst => ?_)
    refine RunL.cons (Op1.assign (v := .bool _) rfl ?_)
    refine RunL.nil ?_
    refine run_seq ?_
    refine run_region ?_
    refine RunL.cons (Op1.move (v := .bool _) rfl ?_)
    refine RunL.cons (Op1.not rfl ?_)
    refine RunL.cons (Op1.move (v := .bool _) rfl ?_)
    refine RunL.split (d := 57) rfl (fun g7 => ?_) (fun g7 => ?_)
    · skip
      exfalso
      first | simp at g7 | exact g7 rfl | exact absurd rfl g7
    refine RunL.take (t := 57) rfl (congrArg Value.bool g7) (Op1.loadA (vs := [.int .u16 _, str _, .bool _, .bool _, str _, str _, .int .i64 _, .int .u8 _]) ty38 rfl rfl rfl (cells_of_obj (n := 8) (hst.objL (.head _)) _ rfl) ?_)
    refine RunL.take (t := 57) rfl (congrArg Value.bool g7) (Op1.loadA (vs := [.int .u16 _, str _, .bool _, .bool _, str _, str _, .int .i64 _, .int .u8 _]) ty38 rfl rfl rfl (cells_of_obj (n := 8) (hst.objL (.tail _ (.head _))) _ rfl) ?_)
    refine RunL.take (t := 57) rfl (congrArg Value.bool g7) (Op1.neqA (xs := [.int .u16 _, str _, .bool _, .bool _, str _, str _, .int .i64 _, .int .u8 _]) (ys := [.int .u16 _, str _, .bool _, .bool _, str _, str _, .int .i64 _, .int .u8 _]) rfl rfl (by kernel_rfl) (EqOk.struct Try.underlying38 (by kernel_rfl) (.cons (by decide) (PartOk.one ty36 rfl rfl) (PartOk.one ty36 rfl rfl) (EqOk.int ty36) (.cons (by decide) (PartOk.one ty9 rfl rfl) (PartOk.one ty9 rfl rfl) (EqOk.str ty9) (.cons (by decide) (PartOk.one ty4 rfl rfl) (PartOk.one ty4 rfl rfl) (EqOk.bool ty4) (.cons (by decide) (PartOk.one ty4 rfl rfl) (PartOk.one ty4 rfl rfl) (EqOk.bool ty4) (.cons (by decide) (PartOk.one ty9 rfl rfl) (PartOk.one ty9 rfl rfl) (EqOk.str ty9) (.cons (by decide) (PartOk.one ty9 rfl rfl) (PartOk.one ty9 rfl rfl) (EqOk.str ty9) (.cons (by decide) (PartOk.one ty3 rfl rfl) (PartOk.one ty3 rfl rfl) (EqOk.int ty3) (.cons (by decide) (PartOk.one ty5 rfl rfl) (PartOk.one ty5 rfl rfl) (EqOk.int ty5) .nil))))))))) ?_)
    refine RunL.cons (Op1.pickF (u := .bool _) (congrArg Value.bool g7) rfl ?_)
    refine RunL.cons (Op1.move (v := .bool _) rfl ?_)
    refine RunL.split (d := 62) rfl (fun g8 => ?_) (fun g8 => ?_)
    · skip
      exfalso
      first | simp at g8 | exact g8 rfl | exact absurd rfl g8
    refine RunL.take (t := 62) rfl (congrArg Value.bool g8) (Op1.fieldAddr fld38_0 rfl ?_)
    refine RunL.take (t := 62) rfl (congrArg Value.bool g8) (Op1.load1 (v := .int .u16 _) ty36 rfl rfl (hst.cellL (.tail _ (.head _)) rfl) ?_)
    refine RunL.take (t := 62) rfl (congrArg Value.bool g8) (Op1.move (v := .int .u16 _) rfl ?_)
    refine RunL.take (t := 62) rfl (congrArg Value.bool g8) (Op1.neq rfl rfl ?_)
    refine RunL.cons (Op1.pickF (u := .bool _) (congrArg Value.bool g8) rfl ?_)
    refine RunL.nil ?_
    refine Run.forget [(1, .int .u8 _), (2, .int .u32 _), (67, .bool _)] ⟨rfl, rfl, rfl, trivial⟩ (fun f => ?_)
    refine run_cond_dec rfl (fun g9 => ?_) (fun g9 => ?_)
    · skip
      exfalso
      exact g9 (hname g6).2
    refine run_skip ?_
    refine run_seq ?_
    refine run_region ?_
    refine RunL.cons (Op1.move (v := .int .u8 _) rfl ?_)
    refine RunL.cons (Op1.move (v := .int .u32 _) rfl ?_)
    refine RunL.cons (Op1.call2 (v1 := .int .u8 _) (v2 := .int .u32 _) ent15 rfl rfl rfl ((R2gr_Enum2 ho hc0 hc1 _).mono fun v w hp => ?_))
    obtain ⟨rfl, hp⟩ := hp
    replace hst := hst.keepc hp
    clear hp
    refine RunL.cons (Op1.move (v := .tuple #[str _, .bool _]) rfl ?_)
    refine RunL.cons (Op1.extract (v := str _) rfl rfl ?_)
    refine RunL.cons (Op1.extract (v := .bool _) rfl rfl ?_)
    refine RunL.cons (Op1.assign (v := str _) rfl ?_)
    refine RunL.cons (Op1.assign (v := .bool _) rfl ?_)
    refine RunL.nil ?_
    refine run_seq ?_
    refine run_seq ?_
    refine run_region ?_
    refine RunL.cons (Op1.move (v := .bool _) rfl ?_)
    refine RunL.nil ?_
    refine run_cond_split rfl (fun g10 => ?_) (fun g10 => ?_)
    · skip
      obtain ⟨x, rfl⟩ := Option.isSome_iff_exists.1 g10
      obtain ⟨_, hxn, hfe, hk4⟩ := find_enum ho
      refine run_seq ?_
      refine run_region ?_
      refine RunL.cons (Op1.move (v := .int .u8 _) rfl ?_)
      refine RunL.cons (Op1.move (v := str _) rfl ?_)
      refine RunL.cons (Op1.call2 (v1 := .int .u8 _) (v2 := str _) ent17 rfl rfl rfl ((R2gr_EnumNamed2 hfe hc0 hc1 _).mono fun v w hp => ?_))
      obtain ⟨rfl, hp⟩ := hp
      replace hst := hst.keepc hp
      clear hp
      refine RunL.cons (Op1.move (v := .tuple #[.int .u32 _, .bool _]) rfl ?_)
      refine RunL.cons (Op1.extract (v := .int .u32 _) rfl rfl ?_)
      refine RunL.cons (Op1.extract (v := .bool _) rfl rfl ?_)
      refine RunL.cons (Op1.assign (v := .int .u32 _) rfl ?_)
      refine RunL.cons (Op1.assign (v := .bool _) rfl ?_)
      refine RunL.nil ?_
      refine run_seq ?_
      refine run_region ?_
      refine RunL.cons (Op1.move (v := .bool _) rfl ?_)
      refine RunL.cons (Op1.not rfl ?_)
      refine RunL.cons (Op1.move (v := .bool _) rfl ?_)
      refine RunL.split (d := 83) rfl (fun g11 => ?_) (fun g11 => ?_)
      · skip
        exfalso
        first | (simp at g11; done) | simp at g11
      refine RunL.take (t := 83) rfl (congrArg Value.bool g11) (Op1.move (v := .int .u32 _) rfl ?_)
      refine RunL.take (t := 83) rfl (congrArg Value.bool g11) (Op1.move (v := .int .u32 _) rfl ?_)
      refine RunL.take (t := 83) rfl (congrArg Value.bool g11) (Op1.neq rfl rfl ?_)
      refine RunL.cons (Op1.pickF (u := .bool _) (congrArg Value.bool g11) rfl ?_)
      refine RunL.cons (Op1.move (v := .bool _) rfl ?_)
      refine RunL.splitD (d := 88) rfl (fun g12 => ?_) (fun g12 => ?_)
      · skip
        exfalso
        exact g12 hxn
      refine RunL.take (t := 88) rfl (congrArg Value.bool (decide_eq_false g12)) (Op1.move (v := .int .u8 _) rfl ?_)
      refine RunL.take (t := 88) rfl (congrArg Value.bool (decide_eq_false g12)) (Op1.call1 (v1 := .int .u8 _) ent26 rfl rfl ((R2gr_Kind _ _).mono fun v w hp => ?_))
      obtain ⟨rfl, hp⟩ := hp
      replace hst := hst.keepc hp
      clear hp
      refine RunL.take (t := 88) rfl (congrArg Value.bool (decide_eq_false g12)) (Op1.neq rfl rfl ?_)
      refine RunL.cons (Op1.pickF (u := .bool _) (congrArg Value.bool (decide_eq_false g12)) rfl ?_)
      refine RunL.nil ?_
      refine Run.forget [(92, .bool _)] ⟨rfl, trivial⟩ (fun f => ?_)
      refine run_cond_dec rfl (fun g13 => ?_) (fun g13 => ?_)
      · skip
        exfalso
        exact g13 hk4
      refine run_skip ?_
      refine run_seq ?_
      refine run_region ?_
      refine RunL.cons (Op1.assign (v := .bool _) rfl ?_)
      refine RunL.nil ?_
      refine run_ret1 Try.func11 rfl (RV.tmp (v := .bool _) rfl) ?_
      exact ⟨rfl, hst.pure⟩
    refine run_skip ?_
    refine run_seq ?_
    refine run_region ?_
    refine RunL.cons (Op1.assign (v := .bool _) rfl ?_)
    refine RunL.nil ?_
    refine run_ret1 Try.func11 rfl (RV.tmp (v := .bool _) rfl) ?_
    exact ⟨rfl, hst.pure⟩
  refine run_skip ?_
  refine run_seq ?_
  refine run_region ?_
  refine RunL.cons (Op1.move (v := .int .u8 _) rfl ?_)
  refine RunL.cons (Op1.move (v := .int .u32 _) rfl ?_)
  refine RunL.cons (Op1.call2 (v1 := .int .u8 _) (v2 := .int .u32 _) ent15 rfl rfl rfl ((R2gr_Enum2 ho hc0 hc1 _).mono fun v w hp => ?_))
  obtain ⟨rfl, hp⟩ := hp
  replace hst := hst.keepc hp
  clear hp
  refine RunL.cons (Op1.move (v := .tuple #[str _, .bool _]) rfl ?_)
  refine RunL.cons (Op1.extract (v := str _) rfl rfl ?_)
  refine RunL.cons (Op1.extract (v := .bool _) rfl rfl ?_)
  refine RunL.cons (Op1.assign (v := str _) rfl ?_)
  refine RunL.cons (Op1.assign (v := .bool _) rfl ?_)
  refine RunL.nil ?_
  refine run_seq ?_
  refine run_seq ?_
  refine run_region ?_
  refine RunL.cons (Op1.move (v := .bool _) rfl ?_)
  refine RunL.nil ?_
  refine run_cond_split rfl (fun g14 => ?_) (fun g14 => ?_)
  · skip
    obtain ⟨x, rfl⟩ := Option.isSome_iff_exists.1 g14
    obtain ⟨_, hxn, hfe, hk4⟩ := find_enum ho
    refine run_seq ?_
    refine run_region ?_
    refine RunL.cons (Op1.move (v := .int .u8 _) rfl ?_)
    refine RunL.cons (Op1.move (v := str _) rfl ?_)
    refine RunL.cons (Op1.call2 (v1 := .int .u8 _) (v2 := str _) ent17 rfl rfl rfl ((R2gr_EnumNamed2 hfe hc0 hc1 _).mono fun v w hp => ?_))
    obtain ⟨rfl, hp⟩ := hp
    replace hst := hst.keepc hp
    clear hp
    refine RunL.cons (Op1.move (v := .tuple #[.int .u32 _, .bool _]) rfl ?_)
    refine RunL.cons (Op1.extract (v := .int .u32 _) rfl rfl ?_)
    refine RunL.cons (Op1.extract (v := .bool _) rfl rfl ?_)
    refine RunL.cons (Op1.assign (v := .int .u32 _) rfl ?_)
    refine RunL.cons (Op1.assign (v := .bool _) rfl ?_)
    refine RunL.nil ?_
    refine Run.forget [(1, .int .u8 _), (2, .int .u32 _), (15, .int .u32 _), (16, .bool _)] ⟨rfl, rfl, rfl, rfl, trivial⟩ (fun f => ?_)
    refine run_seq ?_
    refine run_region ?_
    refine RunL.cons (Op1.move (v := .bool _) rfl ?_)
    refine RunL.cons (Op1.not rfl ?_)
    refine RunL.cons (Op1.move (v := .bool _) rfl ?_)
    refine RunL.split (d := 83) rfl (fun g15 => ?_) (fun g15 => ?_)
    · skip
      exfalso
      first | (simp at g15; done) | simp at g15
    refine RunL.take (t := 83) rfl (congrArg Value.bool g15) (Op1.move (v := .int .u32 _) rfl ?_)
    refine RunL.take (t := 83) rfl (congrArg Value.bool g15) (Op1.move (v := .int .u32 _) rfl ?_)
    refine RunL.take (t := 83) rfl (congrArg Value.bool g15) (Op1.neq rfl rfl ?_)
    refine RunL.cons (Op1.pickF (u := .bool _) (congrArg Value.bool g15) rfl ?_)
    refine RunL.cons (Op1.move (v := .bool _) rfl ?_)
    refine RunL.splitD (d := 88) rfl (fun g16 => ?_) (fun g16 => ?_)
    · skip
      exfalso
      exact g16 hxn
    refine RunL.take (t := 88) rfl (congrArg Value.bool (decide_eq_false g16)) (Op1.move (v := .int .u8 _) rfl ?_)
    refine RunL.take (t := 88) rfl (congrArg Value.bool (decide_eq_false g16)) (Op1.call1 (v1 := .int .u8 _) ent26 rfl rfl ((R2gr_Kind _ _).mono fun v w hp => ?_))
    obtain ⟨rfl, hp⟩ := hp
    replace hst := hst.keepc hp
    clear hp
    refine RunL.take (t := 88) rfl (congrArg Value.bool (decide_eq_false g16)) (Op1.neq rfl rfl ?_)
    refine RunL.cons (Op1.pickF (u := .bool _) (congrArg Value.bool (decide_eq_false g16)) rfl ?_)
    refine RunL.nil ?_
    refine run_cond_dec rfl (fun g17 => ?_) (fun g17 => ?_)
    · skip
      exfalso
      exact g17 hk4
    refine run_skip ?_
    refine run_seq ?_
    refine run_region ?_
    refine RunL.cons (Op1.assign (v := .bool _) rfl ?_)
    refine RunL.nil ?_
    refine run_ret1 Try.func11 rfl (RV.tmp (v := .bool _) rfl) ?_
    exact ⟨rfl, hst.pure⟩
  refine run_skip ?_
  refine run_seq ?_
  refine run_region ?_
  refine RunL.cons (Op1.assign (v := .bool _) rfl ?_)
  refine RunL.nil ?_
  refine run_ret1 Try.func11 rfl (RV.tmp (v := .bool _) rfl) ?_
  exact ⟨rfl, hst.pure⟩

end Go.SK
