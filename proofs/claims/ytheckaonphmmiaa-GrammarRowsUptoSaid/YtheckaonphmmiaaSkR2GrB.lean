/-
  Walks of functions, and of the laws over them.
-/
import Derived.Test.YtheckaonphmmiaaSkGrP
import Derived.Test.YtheckaonphmmiaaSkR2GrA
import Derived.Test.YtheckaonphmmiaaSkR2GrBF
set_option linter.unusedVariables false
set_option linter.unusedSimpArgs false
namespace Go.SK
open Go Go.Proofs
open Go.RowKit
theorem R2gr_number (s : Byts) (hasc : ∀ c ∈ s, c.toNat < 128) (w : World) : Ret Try.prog 32 #[str s] w (fun v w' => v = .int .u32 (numF s) ∧ St w NoM [] [] w') := by
  refine Ret.enter (args := [str s]) Try.func32 rfl rfl rfl ?_
  have hst := St.init w
  refine run_seq ?_
  refine run_region ?_
  refine RunL.cons (Op1.assign (v := .int .u32 _) rfl ?_)
  refine RunL.nil ?_
  refine run_seq ?_
  refine run_region ?_
  refine RunL.cons (Op1.assign (v := .int .u32 _) rfl ?_)
  refine RunL.nil ?_
  refine run_seq ?_
  refine run_seq ?_
  refine run_region ?_
  refine RunL.cons (Op1.move (v := str _) rfl ?_)
  refine RunL.cons (Op1.rangeS hst ty9 rfl fun w it7 hst => ?_)
  refine RunL.nil ?_
  refine run_block ?_
  refine run_loop ?_
  refine Run.indW [(7, .pointer (some ⟨_, 0, none⟩))] ⟨rfl, trivial⟩ (fun (i : Nat) => [(3, .int .u32 (numF (s.take i)))]) (fun (i : Nat) => [Res.iter it7 s i]) (fun (i : Nat) => i ≤ s.length) (fun (i : Nat) => s.length - i) (0) hst (Nat.zero_le _) ⟨rfl, trivial⟩ ?_
  intro i f w hst hJ ih1
  refine run_seq ?_
  refine run_region ?_
  rcases Nat.lt_or_ge i s.length with g2 | g2
  · skip
    have hc := hasc _ (List.getElem_mem g2)
    have hstep := numF_step g2
    refine RunL.cons (Op1.nextS hst rfl (.here) (List.getElem?_eq_getElem g2) (hc) fun w hst => ?_)
    refine RunL.cons (Op1.extract (v := .bool _) rfl rfl ?_)
    refine RunL.nil ?_
    refine run_seq ?_
    refine run_cond_true (congrArg Value.bool (rfl : true = _)) ?_
    refine run_skip ?_
    refine run_block ?_
    refine run_seq ?_
    refine run_region ?_
    refine RunL.cons (Op1.extract (v := .int .i32 _) rfl rfl ?_)
    refine RunL.cons (Op1.assign (v := .int .i32 _) rfl ?_)
    refine RunL.nil ?_
    refine run_region ?_
    refine RunL.cons (Op1.move (v := .int .u32 _) rfl ?_)
    refine RunL.cons (Op1.mul rfl rfl ?_)
    refine RunL.cons (Op1.move (v := .int .i32 _) rfl ?_)
    refine RunL.cons (Op1.subN rfl rfl rfl (wrap_i32 (by omega) (by omega)) ?_)
    first | refine RunL.cons (Op1.convN ty21 ty24 rfl (wrap_u32 (by omega) (by omega)) ?_) | refine RunL.cons (Op1.conv ty21 ty24 rfl ?_)
    refine RunL.cons (Op1.add rfl rfl ?_)
    refine RunL.cons (Op1.assign (v := .int .u32 _) rfl ?_)
    refine RunL.nil ?_
    refine run_inBlock ?_
    refine run_inLoop ?_
    exact ih1 (i + 1) _ w (by omega) hst (by omega) ⟨rfl, trivial⟩ ⟨(congrArg (Value.int .u32) (by rw [hstep]; rfl)), trivial⟩
  obtain rfl : i = s.length := by omega
  refine RunL.cons (Op1.nextE hst rfl (.head _) g2 ?_)
  refine RunL.cons (Op1.extract (v := .bool _) rfl rfl ?_)
  refine RunL.nil ?_
  refine run_seq ?_
  refine run_cond_false (congrArg Value.bool (rfl : false = _)) ?_
  refine run_exit (id := 0) rfl ?_
  refine run_seq ?_
  refine run_region ?_
  refine RunL.cons (Op1.move (v := .int .u32 _) rfl ?_)
  refine RunL.cons (Op1.assign (v := .int .u32 _) rfl ?_)
  refine RunL.nil ?_
  refine run_ret1 Try.func32 rfl (RV.tmp (v := .int .u32 _) rfl) ?_
  exact ⟨congrArg (Value.int .u32) (by rw [List.take_length]), hst.pure⟩

theorem R2ref_form (op : Int) (name : Byts) (t r : Bool) (fixed rest : Byts) (most part : Int) (w : World) : Ret Try.prog 33 #[.int .u16 op, str name, .bool t, .bool r, str fixed, str rest, .int .i64 most, .int .u8 part] w (fun v w' => v = .agg #[.int .u16 op, str name, .bool t, .bool r, str fixed, str rest, .int .i64 most, .int .u8 part] ∧ St w NoM [] [] w') := by
  refine Ret.enter (args := [.int .u16 op, str name, .bool t, .bool r, str fixed, str rest, .int .i64 most, .int .u8 part]) Try.func33 rfl rfl rfl ?_
  have hst := St.init w
  refine run_seq ?_
  refine run_region ?_
  refine RunL.cons (Op1.alloc hst ty38 fun w b16 hst => ?_)
  refine RunL.nil ?_
  refine run_seq ?_
  refine run_region ?_
  refine RunL.cons (Op1.move (v := .int .u16 _) rfl ?_)
  refine RunL.cons (Op1.move (v := str _) rfl ?_)
  refine RunL.cons (Op1.move (v := .bool _) rfl ?_)
  refine RunL.cons (Op1.move (v := .bool _) rfl ?_)
  refine RunL.cons (Op1.move (v := str _) rfl ?_)
  refine RunL.cons (Op1.move (v := str _) rfl ?_)
  refine RunL.cons (Op1.move (v := .int .i64 _) rfl ?_)
  refine RunL.cons (Op1.move (v := .int .u8 _) rfl ?_)
  refine RunL.cons (Op1.buildStruct ty38 stf38 (.cons rfl (v := .int .u16 _) rfl rfl rfl rfl (by repeat (first | exact Put.nil | apply Put.put | apply Put.skip)) (.cons rfl (v := str _) rfl rfl rfl rfl (by repeat (first | exact Put.nil | apply Put.put | apply Put.skip)) (.cons rfl (v := .bool _) rfl rfl rfl rfl (by repeat (first | exact Put.nil | apply Put.put | apply Put.skip)) (.cons rfl (v := .bool _) rfl rfl rfl rfl (by repeat (first | exact Put.nil | apply Put.put | apply Put.skip)) (.cons rfl (v := str _) rfl rfl rfl rfl (by repeat (first | exact Put.nil | apply Put.put | apply Put.skip)) (.cons rfl (v := str _) rfl rfl rfl rfl (by repeat (first | exact Put.nil | apply Put.put | apply Put.skip)) (.cons rfl (v := .int .i64 _) rfl rfl rfl rfl (by repeat (first | exact Put.nil | apply Put.put | apply Put.skip)) (.cons rfl (v := .int .u8 _) rfl rfl rfl rfl (by repeat (first | exact Put.nil | apply Put.put | apply Put.skip)) .nil)))))))) ?_)
  refine RunL.cons (Op1.store (v := .agg #[.int .u16 _, str _, .bool _, .bool _, str _, str _, .int .i64 _, .int .u8 _]) hst ty38 rfl rfl rfl rfl rfl (.here) (by repeat (first | exact Put.nil | apply Put.put | apply Put.skip)) fun w hst => ?_)
  refine RunL.nil ?_
  refine run_ret1 Try.func33 rfl (RV.cellA (vs := [.int .u16 _, str _, .bool _, .bool _, str _, str _, .int .i64 _, .int .u8 _]) rfl ty38 rfl rfl (cells_of_obj (n := 8) (hst.objL (.head _)) _ rfl)) ?_
  exact ⟨rfl, hst.pure⟩

set_option maxRecDepth 4000 in
set_option maxHeartbeats 4000000 in
theorem R2ref_Of (op : Int) (w : World) : Ret Try.prog 18 #[.int .u16 op] w (fun v w' => v = formV (refS op) ∧ St w NoM [] [] w') := by
  refine Ret.enter (args := [.int .u16 op]) Try.func18 rfl rfl rfl ?_
  have hst := St.init w
  refine run_seq ?_
  refine run_region ?_
  refine RunL.cons (Op1.alloc hst ty38 fun w b2 hst => ?_)
  refine RunL.cons (Op1.assign (v := .bool _) rfl ?_)
  refine RunL.nil ?_
  refine run_seq ?_
  refine run_seq ?_
  refine run_region ?_
  refine RunL.cons (Op1.move (v := .int .u16 _) rfl ?_)
  refine RunL.nil ?_
  refine run_block ?_
  refine run_seq ?_
  refine run_region ?_
  refine RunL.cons (Op1.eql rfl rfl ?_)
  refine RunL.cons (Op1.assign (v := .bool _) rfl ?_)
  refine RunL.nil ?_
  refine run_cond_dec rfl (fun g1 => ?_) (fun g1 => ?_)
  · skip
    refine run_seq ?_
    refine run_region ?_
    refine RunL.cons (Op1.move (v := .int .u16 _) rfl ?_)
    refine RunL.cons (Op1.call8 (v1 := .int .u16 _) (v2 := str _) (v3 := .bool _) (v4 := .bool _) (v5 := str _) (v6 := str _) (v7 := .int .i64 _) (v8 := .int .u8 _) ent33 rfl rfl rfl rfl rfl rfl rfl rfl rfl ((R2ref_form _ _ _ _ _ _ _ _ _).mono fun v w hp => ?_))
    obtain ⟨rfl, hp⟩ := hp
    replace hst := hst.keepc hp
    clear hp
    refine RunL.cons (Op1.store (v := .agg #[.int .u16 _, str _, .bool _, .bool _, str _, str _, .int .i64 _, .int .u8 _]) hst ty38 rfl rfl rfl rfl rfl (.here) (by repeat (first | exact Put.nil | apply Put.put | apply Put.skip)) fun w hst => ?_)
    refine RunL.cons (Op1.assign (v := .bool _) rfl ?_)
    refine RunL.nil ?_
    refine run_ret2 Try.func18 rfl (RV.cellA (vs := [.int .u16 _, str _, .bool _, .bool _, str _, str _, .int .i64 _, .int .u8 _]) rfl ty38 rfl rfl (cells_of_obj (n := 8) (hst.objL (.head _)) _ rfl)) (RV.tmp (v := .bool _) rfl) ?_
    subst g1
    have e : refS 1 = some ⟨1, [79, 112, 85, 110, 100, 101, 102], true, true, [], [], 0, 7⟩ := by decide +kernel
    rw [e]
    exact ⟨rfl, hst.pure⟩
  refine run_seq ?_
  refine run_region ?_
  refine RunL.cons (Op1.eql rfl rfl ?_)
  refine RunL.cons (Op1.assign (v := .bool _) rfl ?_)
  refine RunL.nil ?_
  refine run_cond_dec rfl (fun g2 => ?_) (fun g2 => ?_)
  · skip
    refine run_seq ?_
    refine run_region ?_
    refine RunL.cons (Op1.move (v := .int .u16 _) rfl ?_)
    refine RunL.cons (Op1.call8 (v1 := .int .u16 _) (v2 := str _) (v3 := .bool _) (v4 := .bool _) (v5 := str _) (v6 := str _) (v7 := .int .i64 _) (v8 := .int .u8 _) ent33 rfl rfl rfl rfl rfl rfl rfl rfl rfl ((R2ref_form _ _ _ _ _ _ _ _ _).mono fun v w hp => ?_))
    obtain ⟨rfl, hp⟩ := hp
    replace hst := hst.keepc hp
    clear hp
    refine RunL.cons (Op1.store (v := .agg #[.int .u16 _, str _, .bool _, .bool _, str _, str _, .int .i64 _, .int .u8 _]) hst ty38 rfl rfl rfl rfl rfl (.here) (by repeat (first | exact Put.nil | apply Put.put | apply Put.skip)) fun w hst => ?_)
    refine RunL.cons (Op1.assign (v := .bool _) rfl ?_)
    refine RunL.nil ?_
    refine run_ret2 Try.func18 rfl (RV.cellA (vs := [.int .u16 _, str _, .bool _, .bool _, str _, str _, .int .i64 _, .int .u8 _]) rfl ty38 rfl rfl (cells_of_obj (n := 8) (hst.objL (.head _)) _ rfl)) (RV.tmp (v := .bool _) rfl) ?_
    subst g2
    have e : refS 3 = some ⟨3, [79, 112, 83, 111, 117, 114, 99, 101], false, false, [108, 110], [], 0, 4⟩ := by decide +kernel
    rw [e]
    exact ⟨rfl, hst.pure⟩
  refine run_seq ?_
  refine run_region ?_
  refine RunL.cons (Op1.eql rfl rfl ?_)
  refine RunL.cons (Op1.assign (v := .bool _) rfl ?_)
  refine RunL.nil ?_
  refine run_cond_dec rfl (fun g3 => ?_) (fun g3 => ?_)
  · skip
    refine run_seq ?_
    refine run_region ?_
    refine RunL.cons (Op1.move (v := .int .u16 _) rfl ?_)
    refine RunL.cons (Op1.call8 (v1 := .int .u16 _) (v2 := str _) (v3 := .bool _) (v4 := .bool _) (v5 := str _) (v6 := str _) (v7 := .int .i64 _) (v8 := .int .u8 _) ent33 rfl rfl rfl rfl rfl rfl rfl rfl rfl ((R2ref_form _ _ _ _ _ _ _ _ _).mono fun v w hp => ?_))
    obtain ⟨rfl, hp⟩ := hp
    replace hst := hst.keepc hp
    clear hp
    refine RunL.cons (Op1.store (v := .agg #[.int .u16 _, str _, .bool _, .bool _, str _, str _, .int .i64 _, .int .u8 _]) hst ty38 rfl rfl rfl rfl rfl (.here) (by repeat (first | exact Put.nil | apply Put.put | apply Put.skip)) fun w hst => ?_)
    refine RunL.cons (Op1.assign (v := .bool _) rfl ?_)
    refine RunL.nil ?_
    refine run_ret2 Try.func18 rfl (RV.cellA (vs := [.int .u16 _, str _, .bool _, .bool _, str _, str _, .int .i64 _, .int .u8 _]) rfl ty38 rfl rfl (cells_of_obj (n := 8) (hst.objL (.head _)) _ rfl)) (RV.tmp (v := .bool _) rfl) ?_
    subst g3
    have e : refS 5 = some ⟨5, [79, 112, 78, 97, 109, 101], false, false, [105, 115], [], 0, 5⟩ := by decide +kernel
    rw [e]
    exact ⟨rfl, hst.pure⟩
  refine run_seq ?_
  refine run_region ?_
  refine RunL.cons (Op1.eql rfl rfl ?_)
  refine RunL.cons (Op1.assign (v := .bool _) rfl ?_)
  refine RunL.nil ?_
  refine run_cond_dec rfl (fun g4 => ?_) (fun g4 => ?_)
  · skip
    refine run_seq ?_
    refine run_region ?_
    refine RunL.cons (Op1.move (v := .int .u16 _) rfl ?_)
    refine RunL.cons (Op1.call8 (v1 := .int .u16 _) (v2 := str _) (v3 := .bool _) (v4 := .bool _) (v5 := str _) (v6 := str _) (v7 := .int .i64 _) (v8 := .int .u8 _) ent33 rfl rfl rfl rfl rfl rfl rfl rfl rfl ((R2ref_form _ _ _ _ _ _ _ _ _).mono fun v w hp => ?_))
    obtain ⟨rfl, hp⟩ := hp
    replace hst := hst.keepc hp
    clear hp
    refine RunL.cons (Op1.store (v := .agg #[.int .u16 _, str _, .bool _, .bool _, str _, str _, .int .i64 _, .int .u8 _]) hst ty38 rfl rfl rfl rfl rfl (.here) (by repeat (first | exact Put.nil | apply Put.put | apply Put.skip)) fun w hst => ?_)
    refine RunL.cons (Op1.assign (v := .bool _) rfl ?_)
    refine RunL.nil ?_
    refine run_ret2 Try.func18 rfl (RV.cellA (vs := [.int .u16 _, str _, .bool _, .bool _, str _, str _, .int .i64 _, .int .u8 _]) rfl ty38 rfl rfl (cells_of_obj (n := 8) (hst.objL (.head _)) _ rfl)) (RV.tmp (v := .bool _) rfl) ?_
    subst g4
    have e : refS 6 = some ⟨6, [79, 112, 77, 101, 109, 98, 101, 114, 78, 97, 109, 101], false, false, [105, 110, 115], [], 0, 5⟩ := by decide +kernel
    rw [e]
    exact ⟨rfl, hst.pure⟩
  refine run_seq ?_
  refine run_region ?_
  refine RunL.cons (Op1.eql rfl rfl ?_)
  refine RunL.cons (Op1.assign (v := .bool _) rfl ?_)
  refine RunL.nil ?_
  refine run_cond_dec rfl (fun g5 => ?_) (fun g5 => ?_)
  · skip
    refine run_seq ?_
    refine run_region ?_
    refine RunL.cons (Op1.move (v := .int .u16 _) rfl ?_)
    refine RunL.cons (Op1.call8 (v1 := .int .u16 _) (v2 := str _) (v3 := .bool _) (v4 := .bool _) (v5 := str _) (v6 := str _) (v7 := .int .i64 _) (v8 := .int .u8 _) ent33 rfl rfl rfl rfl rfl rfl rfl rfl rfl ((R2ref_form _ _ _ _ _ _ _ _ _).mono fun v w hp => ?_))
    obtain ⟨rfl, hp⟩ := hp
    replace hst := hst.keepc hp
    clear hp
    refine RunL.cons (Op1.store (v := .agg #[.int .u16 _, str _, .bool _, .bool _, str _, str _, .int .i64 _, .int .u8 _]) hst ty38 rfl rfl rfl rfl rfl (.here) (by repeat (first | exact Put.nil | apply Put.put | apply Put.skip)) fun w hst => ?_)
    refine RunL.cons (Op1.assign (v := .bool _) rfl ?_)
    refine RunL.nil ?_
    refine run_ret2 Try.func18 rfl (RV.cellA (vs := [.int .u16 _, str _, .bool _, .bool _, str _, str _, .int .i64 _, .int .u8 _]) rfl ty38 rfl rfl (cells_of_obj (n := 8) (hst.objL (.head _)) _ rfl)) (RV.tmp (v := .bool _) rfl) ?_
    subst g5
    have e : refS 7 = some ⟨7, [79, 112, 83, 116, 114, 105, 110, 103], false, true, [115], [], 0, 4⟩ := by decide +kernel
    rw [e]
    exact ⟨rfl, hst.pure⟩
  refine run_seq ?_
  refine run_region ?_
  refine RunL.cons (Op1.eql rfl rfl ?_)
  refine RunL.cons (Op1.assign (v := .bool _) rfl ?_)
  refine RunL.nil ?_
  refine run_cond_dec rfl (fun g6 => ?_) (fun g6 => ?_)
  · skip
    refine run_seq ?_
    refine run_region ?_
    refine RunL.cons (Op1.move (v := .int .u16 _) rfl ?_)
    refine RunL.cons (Op1.call8 (v1 := .int .u16 _) (v2 := str _) (v3 := .bool _) (v4 := .bool _) (v5 := str _) (v6 := str _) (v7 := .int .i64 _) (v8 := .int .u8 _) ent33 rfl rfl rfl rfl rfl rfl rfl rfl rfl ((R2ref_form _ _ _ _ _ _ _ _ _).mono fun v w hp => ?_))
    obtain ⟨rfl, hp⟩ := hp
    replace hst := hst.keepc hp
    clear hp
    refine RunL.cons (Op1.store (v := .agg #[.int .u16 _, str _, .bool _, .bool _, str _, str _, .int .i64 _, .int .u8 _]) hst ty38 rfl rfl rfl rfl rfl (.here) (by repeat (first | exact Put.nil | apply Put.put | apply Put.skip)) fun w hst => ?_)
    refine RunL.cons (Op1.assign (v := .bool _) rfl ?_)
    refine RunL.nil ?_
    refine run_ret2 Try.func18 rfl (RV.cellA (vs := [.int .u16 _, str _, .bool _, .bool _, str _, str _, .int .i64 _, .int .u8 _]) rfl ty38 rfl rfl (cells_of_obj (n := 8) (hst.objL (.head _)) _ rfl)) (RV.tmp (v := .bool _) rfl) ?_
    subst g6
    have e : refS 14 = some ⟨14, [79, 112, 77, 101, 109, 111, 114, 121, 77, 111, 100, 101, 108], false, false, [97, 109], [], 0, 1⟩ := by decide +kernel
    rw [e]
    exact ⟨rfl, hst.pure⟩
  refine run_seq ?_
  refine run_region ?_
  refine RunL.cons (Op1.eql rfl rfl ?_)
  refine RunL.cons (Op1.assign (v := .bool _) rfl ?_)
  refine RunL.nil ?_
  refine run_cond_dec rfl (fun g7 => ?_) (fun g7 => ?_)
  · skip
    refine run_seq ?_
    refine run_region ?_
    refine RunL.cons (Op1.move (v := .int .u16 _) rfl ?_)
    refine RunL.cons (Op1.call8 (v1 := .int .u16 _) (v2 := str _) (v3 := .bool _) (v4 := .bool _) (v5 := str _) (v6 := str _) (v7 := .int .i64 _) (v8 := .int .u8 _) ent33 rfl rfl rfl rfl rfl rfl rfl rfl rfl ((R2ref_form _ _ _ _ _ _ _ _ _).mono fun v w hp => ?_))
    obtain ⟨rfl, hp⟩ := hp
    replace hst := hst.keepc hp
    clear hp
    refine RunL.cons (Op1.store (v := .agg #[.int .u16 _, str _, .bool _, .bool _, str _, str _, .int .i64 _, .int .u8 _]) hst ty38 rfl rfl rfl rfl rfl (.here) (by repeat (first | exact Put.nil | apply Put.put | apply Put.skip)) fun w hst => ?_)
    refine RunL.cons (Op1.assign (v := .bool _) rfl ?_)
    refine RunL.nil ?_
    refine run_ret2 Try.func18 rfl (RV.cellA (vs := [.int .u16 _, str _, .bool _, .bool _, str _, str _, .int .i64 _, .int .u8 _]) rfl ty38 rfl rfl (cells_of_obj (n := 8) (hst.objL (.head _)) _ rfl)) (RV.tmp (v := .bool _) rfl) ?_
    subst g7
    have e : refS 15 = some ⟨15, [79, 112, 69, 110, 116, 114, 121, 80, 111, 105, 110, 116], false, false, [101, 105, 115], [105], 0, 2⟩ := by decide +kernel
    rw [e]
    exact ⟨rfl, hst.pure⟩
  refine run_seq ?_
  refine run_region ?_
  refine RunL.cons (Op1.eql rfl rfl ?_)
  refine RunL.cons (Op1.assign (v := .bool _) rfl ?_)
  refine RunL.nil ?_
  refine Run.forget [(0, .int .u16 _), (2, .pointer (some ⟨_, _, none⟩)), (4, .int .u16 _), (33, .bool _)] ⟨rfl, rfl, rfl, rfl, trivial⟩ (fun f => ?_)
  refine run_cond_dec rfl (fun g8 => ?_) (fun g8 => ?_)
  · skip
    refine run_seq ?_
    refine run_region ?_
    refine RunL.cons (Op1.move (v := .int .u16 _) rfl ?_)
    refine RunL.cons (Op1.call8 (v1 := .int .u16 _) (v2 := str _) (v3 := .bool _) (v4 := .bool _) (v5 := str _) (v6 := str _) (v7 := .int .i64 _) (v8 := .int .u8 _) ent33 rfl rfl rfl rfl rfl rfl rfl rfl rfl ((R2ref_form _ _ _ _ _ _ _ _ _).mono fun v w hp => ?_))
    obtain ⟨rfl, hp⟩ := hp
    replace hst := hst.keepc hp
    clear hp
    refine RunL.cons (Op1.store (v := .agg #[.int .u16 _, str _, .bool _, .bool _, str _, str _, .int .i64 _, .int .u8 _]) hst ty38 rfl rfl rfl rfl rfl (.here) (by repeat (first | exact Put.nil | apply Put.put | apply Put.skip)) fun w hst => ?_)
    refine RunL.cons (Op1.assign (v := .bool _) rfl ?_)
    refine RunL.nil ?_
    refine run_ret2 Try.func18 rfl (RV.cellA (vs := [.int .u16 _, str _, .bool _, .bool _, str _, str _, .int .i64 _, .int .u8 _]) rfl ty38 rfl rfl (cells_of_obj (n := 8) (hst.objL (.head _)) _ rfl)) (RV.tmp (v := .bool _) rfl) ?_
    subst g8
    have e : refS 16 = some ⟨16, [79, 112, 69, 120, 101, 99, 117, 116, 105, 111, 110, 77, 111, 100, 101], false, false, [105, 120], [], 0, 3⟩ := by decide +kernel
    rw [e]
    exact ⟨rfl, hst.pure⟩
  refine run_seq ?_
  refine run_region ?_
  refine RunL.cons (Op1.eql rfl rfl ?_)
  refine RunL.cons (Op1.assign (v := .bool _) rfl ?_)
  refine RunL.nil ?_
  refine run_cond_dec rfl (fun g9 => ?_) (fun g9 => ?_)
  · skip
    refine run_seq ?_
    refine run_region ?_
    refine RunL.cons (Op1.move (v := .int .u16 _) rfl ?_)
    refine RunL.cons (Op1.call8 (v1 := .int .u16 _) (v2 := str _) (v3 := .bool _) (v4 := .bool _) (v5 := str _) (v6 := str _) (v7 := .int .i64 _) (v8 := .int .u8 _) ent33 rfl rfl rfl rfl rfl rfl rfl rfl rfl ((R2ref_form _ _ _ _ _ _ _ _ _).mono fun v w hp => ?_))
    obtain ⟨rfl, hp⟩ := hp
    replace hst := hst.keepc hp
    clear hp
    refine RunL.cons (Op1.store (v := .agg #[.int .u16 _, str _, .bool _, .bool _, str _, str _, .int .i64 _, .int .u8 _]) hst ty38 rfl rfl rfl rfl rfl (.here) (by repeat (first | exact Put.nil | apply Put.put | apply Put.skip)) fun w hst => ?_)
    refine RunL.cons (Op1.assign (v := .bool _) rfl ?_)
    refine RunL.nil ?_
    refine run_ret2 Try.func18 rfl (RV.cellA (vs := [.int .u16 _, str _, .bool _, .bool _, str _, str _, .int .i64 _, .int .u8 _]) rfl ty38 rfl rfl (cells_of_obj (n := 8) (hst.objL (.head _)) _ rfl)) (RV.tmp (v := .bool _) rfl) ?_
    subst g9
    have e : refS 17 = some ⟨17, [79, 112, 67, 97, 112, 97, 98, 105, 108, 105, 116, 121], false, false, [107], [], 0, 0⟩ := by decide +kernel
    rw [e]
    exact ⟨rfl, hst.pure⟩
  refine run_seq ?_
  refine run_region ?_
  refine RunL.cons (Op1.eql rfl rfl ?_)
  refine RunL.cons (Op1.assign (v := .bool _) rfl ?_)
  refine RunL.nil ?_
  refine run_cond_dec rfl (fun g10 => ?_) (fun g10 => ?_)
  · skip
    refine run_seq ?_
    refine run_region ?_
    refine RunL.cons (Op1.move (v := .int .u16 _) rfl ?_)
    refine RunL.cons (Op1.call8 (v1 := .int .u16 _) (v2 := str _) (v3 := .bool _) (v4 := .bool _) (v5 := str _) (v6 := str _) (v7 := .int .i64 _) (v8 := .int .u8 _) ent33 rfl rfl rfl rfl rfl rfl rfl rfl rfl ((R2ref_form _ _ _ _ _ _ _ _ _).mono fun v w hp => ?_))
    obtain ⟨rfl, hp⟩ := hp
    replace hst := hst.keepc hp
    clear hp
    refine RunL.cons (Op1.store (v := .agg #[.int .u16 _, str _, .bool _, .bool _, str _, str _, .int .i64 _, .int .u8 _]) hst ty38 rfl rfl rfl rfl rfl (.here) (by repeat (first | exact Put.nil | apply Put.put | apply Put.skip)) fun w hst => ?_)
    refine RunL.cons (Op1.assign (v := .bool _) rfl ?_)
    refine RunL.nil ?_
    refine run_ret2 Try.func18 rfl (RV.cellA (vs := [.int .u16 _, str _, .bool _, .bool _, str _, str _, .int .i64 _, .int .u8 _]) rfl ty38 rfl rfl (cells_of_obj (n := 8) (hst.objL (.head _)) _ rfl)) (RV.tmp (v := .bool _) rfl) ?_
    subst g10
    have e : refS 19 = some ⟨19, [79, 112, 84, 121, 112, 101, 86, 111, 105, 100], false, true, [], [], 0, 7⟩ := by decide +kernel
    rw [e]
    exact ⟨rfl, hst.pure⟩
  refine run_seq ?_
  refine run_region ?_
  refine RunL.cons (Op1.eql rfl rfl ?_)
  refine RunL.cons (Op1.assign (v := .bool _) rfl ?_)
  refine RunL.nil ?_
  refine run_cond_dec rfl (fun g11 => ?_) (fun g11 => ?_)
  · skip
    refine run_seq ?_
    refine run_region ?_
    refine RunL.cons (Op1.move (v := .int .u16 _) rfl ?_)
    refine RunL.cons (Op1.call8 (v1 := .int .u16 _) (v2 := str _) (v3 := .bool _) (v4 := .bool _) (v5 := str _) (v6 := str _) (v7 := .int .i64 _) (v8 := .int .u8 _) ent33 rfl rfl rfl rfl rfl rfl rfl rfl rfl ((R2ref_form _ _ _ _ _ _ _ _ _).mono fun v w hp => ?_))
    obtain ⟨rfl, hp⟩ := hp
    replace hst := hst.keepc hp
    clear hp
    refine RunL.cons (Op1.store (v := .agg #[.int .u16 _, str _, .bool _, .bool _, str _, str _, .int .i64 _, .int .u8 _]) hst ty38 rfl rfl rfl rfl rfl (.here) (by repeat (first | exact Put.nil | apply Put.put | apply Put.skip)) fun w hst => ?_)
    refine RunL.cons (Op1.assign (v := .bool _) rfl ?_)
    refine RunL.nil ?_
    refine run_ret2 Try.func18 rfl (RV.cellA (vs := [.int .u16 _, str _, .bool _, .bool _, str _, str _, .int .i64 _, .int .u8 _]) rfl ty38 rfl rfl (cells_of_obj (n := 8) (hst.objL (.head _)) _ rfl)) (RV.tmp (v := .bool _) rfl) ?_
    subst g11
    have e : refS 20 = some ⟨20, [79, 112, 84, 121, 112, 101, 66, 111, 111, 108], false, true, [], [], 0, 7⟩ := by decide +kernel
    rw [e]
    exact ⟨rfl, hst.pure⟩
  refine run_seq ?_
  refine run_region ?_
  refine RunL.cons (Op1.eql rfl rfl ?_)
  refine RunL.cons (Op1.assign (v := .bool _) rfl ?_)
  refine RunL.nil ?_
  refine run_cond_dec rfl (fun g12 => ?_) (fun g12 => ?_)
  · skip
    refine run_seq ?_
    refine run_region ?_
    refine RunL.cons (Op1.move (v := .int .u16 _) rfl ?_)
    refine RunL.cons (Op1.call8 (v1 := .int .u16 _) (v2 := str _) (v3 := .bool _) (v4 := .bool _) (v5 := str _) (v6 := str _) (v7 := .int .i64 _) (v8 := .int .u8 _) ent33 rfl rfl rfl rfl rfl rfl rfl rfl rfl ((R2ref_form _ _ _ _ _ _ _ _ _).mono fun v w hp => ?_))
    obtain ⟨rfl, hp⟩ := hp
    replace hst := hst.keepc hp
    clear hp
    refine RunL.cons (Op1.store (v := .agg #[.int .u16 _, str _, .bool _, .bool _, str _, str _, .int .i64 _, .int .u8 _]) hst ty38 rfl rfl rfl rfl rfl (.here) (by repeat (first | exact Put.nil | apply Put.put | apply Put.skip)) fun w hst => ?_)
    refine RunL.cons (Op1.assign (v := .bool _) rfl ?_)
    refine RunL.nil ?_
    refine run_ret2 Try.func18 rfl (RV.cellA (vs := [.int .u16 _, str _, .bool _, .bool _, str _, str _, .int .i64 _, .int .u8 _]) rfl ty38 rfl rfl (cells_of_obj (n := 8) (hst.objL (.head _)) _ rfl)) (RV.tmp (v := .bool _) rfl) ?_
    subst g12
    have e : refS 21 = some ⟨21, [79, 112, 84, 121, 112, 101, 73, 110, 116], false, true, [110, 110], [], 0, 7⟩ := by decide +kernel
    rw [e]
    exact ⟨rfl, hst.pure⟩
  refine run_seq ?_
  refine run_region ?_
  refine RunL.cons (Op1.eql rfl rfl ?_)
  refine RunL.cons (Op1.assign (v := .bool _) rfl ?_)
  refine RunL.nil ?_
  refine run_cond_dec rfl (fun g13 => ?_) (fun g13 => ?_)
  · skip
    refine run_seq ?_
    refine run_region ?_
    refine RunL.cons (Op1.move (v := .int .u16 _) rfl ?_)
    refine RunL.cons (Op1.call8 (v1 := .int .u16 _) (v2 := str _) (v3 := .bool _) (v4 := .bool _) (v5 := str _) (v6 := str _) (v7 := .int .i64 _) (v8 := .int .u8 _) ent33 rfl rfl rfl rfl rfl rfl rfl rfl rfl ((R2ref_form _ _ _ _ _ _ _ _ _).mono fun v w hp => ?_))
    obtain ⟨rfl, hp⟩ := hp
    replace hst := hst.keepc hp
    clear hp
    refine RunL.cons (Op1.store (v := .agg #[.int .u16 _, str _, .bool _, .bool _, str _, str _, .int .i64 _, .int .u8 _]) hst ty38 rfl rfl rfl rfl rfl (.here) (by repeat (first | exact Put.nil | apply Put.put | apply Put.skip)) fun w hst => ?_)
    refine RunL.cons (Op1.assign (v := .bool _) rfl ?_)
    refine RunL.nil ?_
    refine run_ret2 Try.func18 rfl (RV.cellA (vs := [.int .u16 _, str _, .bool _, .bool _, str _, str _, .int .i64 _, .int .u8 _]) rfl ty38 rfl rfl (cells_of_obj (n := 8) (hst.objL (.head _)) _ rfl)) (RV.tmp (v := .bool _) rfl) ?_
    subst g13
    have e : refS 23 = some ⟨23, [79, 112, 84, 121, 112, 101, 86, 101, 99, 116, 111, 114], false, true, [105, 110], [], 0, 7⟩ := by decide +kernel
    rw [e]
    exact ⟨rfl, hst.pure⟩
  refine run_seq ?_
  refine run_region ?_
  refine RunL.cons (Op1.eql rfl rfl ?_)
  refine RunL.cons (Op1.assign (v := .bool _) rfl ?_)
  refine RunL.nil ?_
  refine run_cond_dec rfl (fun g14 => ?_) (fun g14 => ?_)
  · skip
    refine run_seq ?_
    refine run_region ?_
    refine RunL.cons (Op1.move (v := .int .u16 _) rfl ?_)
    refine RunL.cons (Op1.call8 (v1 := .int .u16 _) (v2 := str _) (v3 := .bool _) (v4 := .bool _) (v5 := str _) (v6 := str _) (v7 := .int .i64 _) (v8 := .int .u8 _) ent33 rfl rfl rfl rfl rfl rfl rfl rfl rfl ((R2ref_form _ _ _ _ _ _ _ _ _).mono fun v w hp => ?_))
    obtain ⟨rfl, hp⟩ := hp
    replace hst := hst.keepc hp
    clear hp
    refine RunL.cons (Op1.store (v := .agg #[.int .u16 _, str _, .bool _, .bool _, str _, str _, .int .i64 _, .int .u8 _]) hst ty38 rfl rfl rfl rfl rfl (.here) (by repeat (first | exact Put.nil | apply Put.put | apply Put.skip)) fun w hst => ?_)
    refine RunL.cons (Op1.assign (v := .bool _) rfl ?_)
    refine RunL.nil ?_
    refine run_ret2 Try.func18 rfl (RV.cellA (vs := [.int .u16 _, str _, .bool _, .bool _, str _, str _, .int .i64 _, .int .u8 _]) rfl ty38 rfl rfl (cells_of_obj (n := 8) (hst.objL (.head _)) _ rfl)) (RV.tmp (v := .bool _) rfl) ?_
    subst g14
    have e : refS 28 = some ⟨28, [79, 112, 84, 121, 112, 101, 65, 114, 114, 97, 121], false, true, [105, 105], [], 0, 7⟩ := by decide +kernel
    rw [e]
    exact ⟨rfl, hst.pure⟩
  refine run_seq ?_
  refine run_region ?_
  refine RunL.cons (Op1.eql rfl rfl ?_)
  refine RunL.cons (Op1.assign (v := .bool _) rfl ?_)
  refine RunL.nil ?_
  refine run_cond_dec rfl (fun g15 => ?_) (fun g15 => ?_)
  · skip
    refine run_seq ?_
    refine run_region ?_
    refine RunL.cons (Op1.move (v := .int .u16 _) rfl ?_)
    refine RunL.cons (Op1.call8 (v1 := .int .u16 _) (v2 := str _) (v3 := .bool _) (v4 := .bool _) (v5 := str _) (v6 := str _) (v7 := .int .i64 _) (v8 := .int .u8 _) ent33 rfl rfl rfl rfl rfl rfl rfl rfl rfl ((R2ref_form _ _ _ _ _ _ _ _ _).mono fun v w hp => ?_))
    obtain ⟨rfl, hp⟩ := hp
    replace hst := hst.keepc hp
    clear hp
    refine RunL.cons (Op1.store (v := .agg #[.int .u16 _, str _, .bool _, .bool _, str _, str _, .int .i64 _, .int .u8 _]) hst ty38 rfl rfl rfl rfl rfl (.here) (by repeat (first | exact Put.nil | apply Put.put | apply Put.skip)) fun w hst => ?_)
    refine RunL.cons (Op1.assign (v := .bool _) rfl ?_)
    refine RunL.nil ?_
    refine run_ret2 Try.func18 rfl (RV.cellA (vs := [.int .u16 _, str _, .bool _, .bool _, str _, str _, .int .i64 _, .int .u8 _]) rfl ty38 rfl rfl (cells_of_obj (n := 8) (hst.objL (.head _)) _ rfl)) (RV.tmp (v := .bool _) rfl) ?_
    subst g15
    have e : refS 30 = some ⟨30, [79, 112, 84, 121, 112, 101, 83, 116, 114, 117, 99, 116], false, true, [], [105], 0, 7⟩ := by decide +kernel
    rw [e]
    exact ⟨rfl, hst.pure⟩
  refine run_seq ?_
  refine run_region ?_
  refine RunL.cons (Op1.eql rfl rfl ?_)
  refine RunL.cons (Op1.assign (v := .bool _) rfl ?_)
  refine RunL.nil ?_
  refine run_cond_dec rfl (fun g16 => ?_) (fun g16 => ?_)
  · skip
    refine run_seq ?_
    refine run_region ?_
    refine RunL.cons (Op1.move (v := .int .u16 _) rfl ?_)
    refine RunL.cons (Op1.call8 (v1 := .int .u16 _) (v2 := str _) (v3 := .bool _) (v4 := .bool _) (v5 := str _) (v6 := str _) (v7 := .int .i64 _) (v8 := .int .u8 _) ent33 rfl rfl rfl rfl rfl rfl rfl rfl rfl ((R2ref_form _ _ _ _ _ _ _ _ _).mono fun v w hp => ?_))
    obtain ⟨rfl, hp⟩ := hp
    replace hst := hst.keepc hp
    clear hp
    refine RunL.cons (Op1.store (v := .agg #[.int .u16 _, str _, .bool _, .bool _, str _, str _, .int .i64 _, .int .u8 _]) hst ty38 rfl rfl rfl rfl rfl (.here) (by repeat (first | exact Put.nil | apply Put.put | apply Put.skip)) fun w hst => ?_)
    refine RunL.cons (Op1.assign (v := .bool _) rfl ?_)
    refine RunL.nil ?_
    refine run_ret2 Try.func18 rfl (RV.cellA (vs := [.int .u16 _, str _, .bool _, .bool _, str _, str _, .int .i64 _, .int .u8 _]) rfl ty38 rfl rfl (cells_of_obj (n := 8) (hst.objL (.head _)) _ rfl)) (RV.tmp (v := .bool _) rfl) ?_
    subst g16
    have e : refS 32 = some ⟨32, [79, 112, 84, 121, 112, 101, 80, 111, 105, 110, 116, 101, 114], false, true, [99, 105], [], 0, 7⟩ := by decide +kernel
    rw [e]
    exact ⟨rfl, hst.pure⟩
  refine run_seq ?_
  refine run_region ?_
  refine RunL.cons (Op1.eql rfl rfl ?_)
  refine RunL.cons (Op1.assign (v := .bool _) rfl ?_)
  refine RunL.nil ?_
  refine run_cond_dec rfl (fun g17 => ?_) (fun g17 => ?_)
  · skip
    refine run_seq ?_
    refine run_region ?_
    refine RunL.cons (Op1.move (v := .int .u16 _) rfl ?_)
    refine RunL.cons (Op1.call8 (v1 := .int .u16 _) (v2 := str _) (v3 := .bool _) (v4 := .bool _) (v5 := str _) (v6 := str _) (v7 := .int .i64 _) (v8 := .int .u8 _) ent33 rfl rfl rfl rfl rfl rfl rfl rfl rfl ((R2ref_form _ _ _ _ _ _ _ _ _).mono fun v w hp => ?_))
    obtain ⟨rfl, hp⟩ := hp
    replace hst := hst.keepc hp
    clear hp
    refine RunL.cons (Op1.store (v := .agg #[.int .u16 _, str _, .bool _, .bool _, str _, str _, .int .i64 _, .int .u8 _]) hst ty38 rfl rfl rfl rfl rfl (.here) (by repeat (first | exact Put.nil | apply Put.put | apply Put.skip)) fun w hst => ?_)
    refine RunL.cons (Op1.assign (v := .bool _) rfl ?_)
    refine RunL.nil ?_
    refine run_ret2 Try.func18 rfl (RV.cellA (vs := [.int .u16 _, str _, .bool _, .bool _, str _, str _, .int .i64 _, .int .u8 _]) rfl ty38 rfl rfl (cells_of_obj (n := 8) (hst.objL (.head _)) _ rfl)) (RV.tmp (v := .bool _) rfl) ?_
    subst g17
    have e : refS 33 = some ⟨33, [79, 112, 84, 121, 112, 101, 70, 117, 110, 99, 116, 105, 111, 110], false, true, [105], [105], 0, 7⟩ := by decide +kernel
    rw [e]
    exact ⟨rfl, hst.pure⟩
  refine run_seq ?_
  refine run_region ?_
  refine RunL.cons (Op1.eql rfl rfl ?_)
  refine RunL.cons (Op1.assign (v := .bool _) rfl ?_)
  refine RunL.nil ?_
  refine Run.forget [(0, .int .u16 _), (2, .pointer (some ⟨_, _, none⟩)), (4, .int .u16 _), (73, .bool _)] ⟨rfl, rfl, rfl, rfl, trivial⟩ (fun f => ?_)
  refine run_cond_dec rfl (fun g18 => ?_) (fun g18 => ?_)
  · skip
    refine run_seq ?_
    refine run_region ?_
    refine RunL.cons (Op1.move (v := .int .u16 _) rfl ?_)
    refine RunL.cons (Op1.call8 (v1 := .int .u16 _) (v2 := str _) (v3 := .bool _) (v4 := .bool _) (v5 := str _) (v6 := str _) (v7 := .int .i64 _) (v8 := .int .u8 _) ent33 rfl rfl rfl rfl rfl rfl rfl rfl rfl ((R2ref_form _ _ _ _ _ _ _ _ _).mono fun v w hp => ?_))
    obtain ⟨rfl, hp⟩ := hp
    replace hst := hst.keepc hp
    clear hp
    refine RunL.cons (Op1.store (v := .agg #[.int .u16 _, str _, .bool _, .bool _, str _, str _, .int .i64 _, .int .u8 _]) hst ty38 rfl rfl rfl rfl rfl (.here) (by repeat (first | exact Put.nil | apply Put.put | apply Put.skip)) fun w hst => ?_)
    refine RunL.cons (Op1.assign (v := .bool _) rfl ?_)
    refine RunL.nil ?_
    refine run_ret2 Try.func18 rfl (RV.cellA (vs := [.int .u16 _, str _, .bool _, .bool _, str _, str _, .int .i64 _, .int .u8 _]) rfl ty38 rfl rfl (cells_of_obj (n := 8) (hst.objL (.head _)) _ rfl)) (RV.tmp (v := .bool _) rfl) ?_
    subst g18
    have e : refS 41 = some ⟨41, [79, 112, 67, 111, 110, 115, 116, 97, 110, 116, 84, 114, 117, 101], true, true, [], [], 0, 7⟩ := by decide +kernel
    rw [e]
    exact ⟨rfl, hst.pure⟩
  refine run_seq ?_
  refine run_region ?_
  refine RunL.cons (Op1.eql rfl rfl ?_)
  refine RunL.cons (Op1.assign (v := .bool _) rfl ?_)
  refine RunL.nil ?_
  refine run_cond_dec rfl (fun g19 => ?_) (fun g19 => ?_)
  · skip
    refine run_seq ?_
    refine run_region ?_
    refine RunL.cons (Op1.move (v := .int .u16 _) rfl ?_)
    refine RunL.cons (Op1.call8 (v1 := .int .u16 _) (v2 := str _) (v3 := .bool _) (v4 := .bool _) (v5 := str _) (v6 := str _) (v7 := .int .i64 _) (v8 := .int .u8 _) ent33 rfl rfl rfl rfl rfl rfl rfl rfl rfl ((R2ref_form _ _ _ _ _ _ _ _ _).mono fun v w hp => ?_))
    obtain ⟨rfl, hp⟩ := hp
    replace hst := hst.keepc hp
    clear hp
    refine RunL.cons (Op1.store (v := .agg #[.int .u16 _, str _, .bool _, .bool _, str _, str _, .int .i64 _, .int .u8 _]) hst ty38 rfl rfl rfl rfl rfl (.here) (by repeat (first | exact Put.nil | apply Put.put | apply Put.skip)) fun w hst => ?_)
    refine RunL.cons (Op1.assign (v := .bool _) rfl ?_)
    refine RunL.nil ?_
    refine run_ret2 Try.func18 rfl (RV.cellA (vs := [.int .u16 _, str _, .bool _, .bool _, str _, str _, .int .i64 _, .int .u8 _]) rfl ty38 rfl rfl (cells_of_obj (n := 8) (hst.objL (.head _)) _ rfl)) (RV.tmp (v := .bool _) rfl) ?_
    subst g19
    have e : refS 42 = some ⟨42, [79, 112, 67, 111, 110, 115, 116, 97, 110, 116, 70, 97, 108, 115, 101], true, true, [], [], 0, 7⟩ := by decide +kernel
    rw [e]
    exact ⟨rfl, hst.pure⟩
  refine run_seq ?_
  refine run_region ?_
  refine RunL.cons (Op1.eql rfl rfl ?_)
  refine RunL.cons (Op1.assign (v := .bool _) rfl ?_)
  refine RunL.nil ?_
  refine run_cond_dec rfl (fun g20 => ?_) (fun g20 => ?_)
  · skip
    refine run_seq ?_
    refine run_region ?_
    refine RunL.cons (Op1.move (v := .int .u16 _) rfl ?_)
    refine RunL.cons (Op1.call8 (v1 := .int .u16 _) (v2 := str _) (v3 := .bool _) (v4 := .bool _) (v5 := str _) (v6 := str _) (v7 := .int .i64 _) (v8 := .int .u8 _) ent33 rfl rfl rfl rfl rfl rfl rfl rfl rfl ((R2ref_form _ _ _ _ _ _ _ _ _).mono fun v w hp => ?_))
    obtain ⟨rfl, hp⟩ := hp
    replace hst := hst.keepc hp
    clear hp
    refine RunL.cons (Op1.store (v := .agg #[.int .u16 _, str _, .bool _, .bool _, str _, str _, .int .i64 _, .int .u8 _]) hst ty38 rfl rfl rfl rfl rfl (.here) (by repeat (first | exact Put.nil | apply Put.put | apply Put.skip)) fun w hst => ?_)
    refine RunL.cons (Op1.assign (v := .bool _) rfl ?_)
    refine RunL.nil ?_
    refine run_ret2 Try.func18 rfl (RV.cellA (vs := [.int .u16 _, str _, .bool _, .bool _, str _, str _, .int .i64 _, .int .u8 _]) rfl ty38 rfl rfl (cells_of_obj (n := 8) (hst.objL (.head _)) _ rfl)) (RV.tmp (v := .bool _) rfl) ?_
    subst g20
    have e : refS 43 = some ⟨43, [79, 112, 67, 111, 110, 115, 116, 97, 110, 116], true, true, [110], [], 0, 7⟩ := by decide +kernel
    rw [e]
    exact ⟨rfl, hst.pure⟩
  refine run_seq ?_
  refine run_region ?_
  refine RunL.cons (Op1.eql rfl rfl ?_)
  refine RunL.cons (Op1.assign (v := .bool _) rfl ?_)
  refine RunL.nil ?_
  refine run_cond_dec rfl (fun g21 => ?_) (fun g21 => ?_)
  · skip
    refine run_seq ?_
    refine run_region ?_
    refine RunL.cons (Op1.move (v := .int .u16 _) rfl ?_)
    refine RunL.cons (Op1.call8 (v1 := .int .u16 _) (v2 := str _) (v3 := .bool _) (v4 := .bool _) (v5 := str _) (v6 := str _) (v7 := .int .i64 _) (v8 := .int .u8 _) ent33 rfl rfl rfl rfl rfl rfl rfl rfl rfl ((R2ref_form _ _ _ _ _ _ _ _ _).mono fun v w hp => ?_))
    obtain ⟨rfl, hp⟩ := hp
    replace hst := hst.keepc hp
    clear hp
    refine RunL.cons (Op1.store (v := .agg #[.int .u16 _, str _, .bool _, .bool _, str _, str _, .int .i64 _, .int .u8 _]) hst ty38 rfl rfl rfl rfl rfl (.here) (by repeat (first | exact Put.nil | apply Put.put | apply Put.skip)) fun w hst => ?_)
    refine RunL.cons (Op1.assign (v := .bool _) rfl ?_)
    refine RunL.nil ?_
    refine run_ret2 Try.func18 rfl (RV.cellA (vs := [.int .u16 _, str _, .bool _, .bool _, str _, str _, .int .i64 _, .int .u8 _]) rfl ty38 rfl rfl (cells_of_obj (n := 8) (hst.objL (.head _)) _ rfl)) (RV.tmp (v := .bool _) rfl) ?_
    subst g21
    have e : refS 44 = some ⟨44, [79, 112, 67, 111, 110, 115, 116, 97, 110, 116, 67, 111, 109, 112, 111, 115, 105, 116, 101], true, true, [], [105], 0, 7⟩ := by decide +kernel
    rw [e]
    exact ⟨rfl, hst.pure⟩
  refine run_seq ?_
  refine run_region ?_
  refine RunL.cons (Op1.eql rfl rfl ?_)
  refine RunL.cons (Op1.assign (v := .bool _) rfl ?_)
  refine RunL.nil ?_
  refine run_cond_dec rfl (fun g22 => ?_) (fun g22 => ?_)
  · skip
    refine run_seq ?_
    refine run_region ?_
    refine RunL.cons (Op1.move (v := .int .u16 _) rfl ?_)
    refine RunL.cons (Op1.call8 (v1 := .int .u16 _) (v2 := str _) (v3 := .bool _) (v4 := .bool _) (v5 := str _) (v6 := str _) (v7 := .int .i64 _) (v8 := .int .u8 _) ent33 rfl rfl rfl rfl rfl rfl rfl rfl rfl ((R2ref_form _ _ _ _ _ _ _ _ _).mono fun v w hp => ?_))
    obtain ⟨rfl, hp⟩ := hp
    replace hst := hst.keepc hp
    clear hp
    refine RunL.cons (Op1.store (v := .agg #[.int .u16 _, str _, .bool _, .bool _, str _, str _, .int .i64 _, .int .u8 _]) hst ty38 rfl rfl rfl rfl rfl (.here) (by repeat (first | exact Put.nil | apply Put.put | apply Put.skip)) fun w hst => ?_)
    refine RunL.cons (Op1.assign (v := .bool _) rfl ?_)
    refine RunL.nil ?_
    refine run_ret2 Try.func18 rfl (RV.cellA (vs := [.int .u16 _, str _, .bool _, .bool _, str _, str _, .int .i64 _, .int .u8 _]) rfl ty38 rfl rfl (cells_of_obj (n := 8) (hst.objL (.head _)) _ rfl)) (RV.tmp (v := .bool _) rfl) ?_
    subst g22
    have e : refS 46 = some ⟨46, [79, 112, 67, 111, 110, 115, 116, 97, 110, 116, 78, 117, 108, 108], true, true, [], [], 0, 7⟩ := by decide +kernel
    rw [e]
    exact ⟨rfl, hst.pure⟩
  refine run_seq ?_
  refine run_region ?_
  refine RunL.cons (Op1.eql rfl rfl ?_)
  refine RunL.cons (Op1.assign (v := .bool _) rfl ?_)
  refine RunL.nil ?_
  refine run_cond_dec rfl (fun g23 => ?_) (fun g23 => ?_)
  · skip
    refine run_seq ?_
    refine run_region ?_
    refine RunL.cons (Op1.move (v := .int .u16 _) rfl ?_)
    refine RunL.cons (Op1.call8 (v1 := .int .u16 _) (v2 := str _) (v3 := .bool _) (v4 := .bool _) (v5 := str _) (v6 := str _) (v7 := .int .i64 _) (v8 := .int .u8 _) ent33 rfl rfl rfl rfl rfl rfl rfl rfl rfl ((R2ref_form _ _ _ _ _ _ _ _ _).mono fun v w hp => ?_))
    obtain ⟨rfl, hp⟩ := hp
    replace hst := hst.keepc hp
    clear hp
    refine RunL.cons (Op1.store (v := .agg #[.int .u16 _, str _, .bool _, .bool _, str _, str _, .int .i64 _, .int .u8 _]) hst ty38 rfl rfl rfl rfl rfl (.here) (by repeat (first | exact Put.nil | apply Put.put | apply Put.skip)) fun w hst => ?_)
    refine RunL.cons (Op1.assign (v := .bool _) rfl ?_)
    refine RunL.nil ?_
    refine run_ret2 Try.func18 rfl (RV.cellA (vs := [.int .u16 _, str _, .bool _, .bool _, str _, str _, .int .i64 _, .int .u8 _]) rfl ty38 rfl rfl (cells_of_obj (n := 8) (hst.objL (.head _)) _ rfl)) (RV.tmp (v := .bool _) rfl) ?_
    subst g23
    have e : refS 54 = some ⟨54, [79, 112, 70, 117, 110, 99, 116, 105, 111, 110], true, true, [102, 105], [], 0, 8⟩ := by decide +kernel
    rw [e]
    exact ⟨rfl, hst.pure⟩
  refine run_seq ?_
  refine run_region ?_
  refine RunL.cons (Op1.eql rfl rfl ?_)
  refine RunL.cons (Op1.assign (v := .bool _) rfl ?_)
  refine RunL.nil ?_
  refine run_cond_dec rfl (fun g24 => ?_) (fun g24 => ?_)
  · skip
    refine run_seq ?_
    refine run_region ?_
    refine RunL.cons (Op1.move (v := .int .u16 _) rfl ?_)
    refine RunL.cons (Op1.call8 (v1 := .int .u16 _) (v2 := str _) (v3 := .bool _) (v4 := .bool _) (v5 := str _) (v6 := str _) (v7 := .int .i64 _) (v8 := .int .u8 _) ent33 rfl rfl rfl rfl rfl rfl rfl rfl rfl ((R2ref_form _ _ _ _ _ _ _ _ _).mono fun v w hp => ?_))
    obtain ⟨rfl, hp⟩ := hp
    replace hst := hst.keepc hp
    clear hp
    refine RunL.cons (Op1.store (v := .agg #[.int .u16 _, str _, .bool _, .bool _, str _, str _, .int .i64 _, .int .u8 _]) hst ty38 rfl rfl rfl rfl rfl (.here) (by repeat (first | exact Put.nil | apply Put.put | apply Put.skip)) fun w hst => ?_)
    refine RunL.cons (Op1.assign (v := .bool _) rfl ?_)
    refine RunL.nil ?_
    refine run_ret2 Try.func18 rfl (RV.cellA (vs := [.int .u16 _, str _, .bool _, .bool _, str _, str _, .int .i64 _, .int .u8 _]) rfl ty38 rfl rfl (cells_of_obj (n := 8) (hst.objL (.head _)) _ rfl)) (RV.tmp (v := .bool _) rfl) ?_
    subst g24
    have e : refS 55 = some ⟨55, [79, 112, 70, 117, 110, 99, 116, 105, 111, 110, 80, 97, 114, 97, 109, 101, 116, 101, 114], true, true, [], [], 0, 8⟩ := by decide +kernel
    rw [e]
    exact ⟨rfl, hst.pure⟩
  refine run_seq ?_
  refine run_region ?_
  refine RunL.cons (Op1.eql rfl rfl ?_)
  refine RunL.cons (Op1.assign (v := .bool _) rfl ?_)
  refine RunL.nil ?_
  refine run_cond_dec rfl (fun g25 => ?_) (fun g25 => ?_)
  · skip
    refine run_seq ?_
    refine run_region ?_
    refine RunL.cons (Op1.move (v := .int .u16 _) rfl ?_)
    refine RunL.cons (Op1.call8 (v1 := .int .u16 _) (v2 := str _) (v3 := .bool _) (v4 := .bool _) (v5 := str _) (v6 := str _) (v7 := .int .i64 _) (v8 := .int .u8 _) ent33 rfl rfl rfl rfl rfl rfl rfl rfl rfl ((R2ref_form _ _ _ _ _ _ _ _ _).mono fun v w hp => ?_))
    obtain ⟨rfl, hp⟩ := hp
    replace hst := hst.keepc hp
    clear hp
    refine RunL.cons (Op1.store (v := .agg #[.int .u16 _, str _, .bool _, .bool _, str _, str _, .int .i64 _, .int .u8 _]) hst ty38 rfl rfl rfl rfl rfl (.here) (by repeat (first | exact Put.nil | apply Put.put | apply Put.skip)) fun w hst => ?_)
    refine RunL.cons (Op1.assign (v := .bool _) rfl ?_)
    refine RunL.nil ?_
    refine run_ret2 Try.func18 rfl (RV.cellA (vs := [.int .u16 _, str _, .bool _, .bool _, str _, str _, .int .i64 _, .int .u8 _]) rfl ty38 rfl rfl (cells_of_obj (n := 8) (hst.objL (.head _)) _ rfl)) (RV.tmp (v := .bool _) rfl) ?_
    subst g25
    have e : refS 56 = some ⟨56, [79, 112, 70, 117, 110, 99, 116, 105, 111, 110, 69, 110, 100], false, false, [], [], 0, 8⟩ := by decide +kernel
    rw [e]
    exact ⟨rfl, hst.pure⟩
  refine run_seq ?_
  refine run_region ?_
  refine RunL.cons (Op1.eql rfl rfl ?_)
  refine RunL.cons (Op1.assign (v := .bool _) rfl ?_)
  refine RunL.nil ?_
  refine run_cond_dec rfl (fun g26 => ?_) (fun g26 => ?_)
  · skip
    refine run_seq ?_
    refine run_region ?_
    refine RunL.cons (Op1.move (v := .int .u16 _) rfl ?_)
    refine RunL.cons (Op1.call8 (v1 := .int .u16 _) (v2 := str _) (v3 := .bool _) (v4 := .bool _) (v5 := str _) (v6 := str _) (v7 := .int .i64 _) (v8 := .int .u8 _) ent33 rfl rfl rfl rfl rfl rfl rfl rfl rfl ((R2ref_form _ _ _ _ _ _ _ _ _).mono fun v w hp => ?_))
    obtain ⟨rfl, hp⟩ := hp
    replace hst := hst.keepc hp
    clear hp
    refine RunL.cons (Op1.store (v := .agg #[.int .u16 _, str _, .bool _, .bool _, str _, str _, .int .i64 _, .int .u8 _]) hst ty38 rfl rfl rfl rfl rfl (.here) (by repeat (first | exact Put.nil | apply Put.put | apply Put.skip)) fun w hst => ?_)
    refine RunL.cons (Op1.assign (v := .bool _) rfl ?_)
    refine RunL.nil ?_
    refine run_ret2 Try.func18 rfl (RV.cellA (vs := [.int .u16 _, str _, .bool _, .bool _, str _, str _, .int .i64 _, .int .u8 _]) rfl ty38 rfl rfl (cells_of_obj (n := 8) (hst.objL (.head _)) _ rfl)) (RV.tmp (v := .bool _) rfl) ?_
    subst g26
    have e : refS 57 = some ⟨57, [79, 112, 70, 117, 110, 99, 116, 105, 111, 110, 67, 97, 108, 108], true, true, [105], [105], 0, 8⟩ := by decide +kernel
    rw [e]
    exact ⟨rfl, hst.pure⟩
  refine run_seq ?_
  refine run_region ?_
  refine RunL.cons (Op1.eql rfl rfl ?_)
  refine RunL.cons (Op1.assign (v := .bool _) rfl ?_)
  refine RunL.nil ?_
  refine run_cond_dec rfl (fun g27 => ?_) (fun g27 => ?_)
  · skip
    refine run_seq ?_
    refine run_region ?_
    refine RunL.cons (Op1.move (v := .int .u16 _) rfl ?_)
    refine RunL.cons (Op1.call8 (v1 := .int .u16 _) (v2 := str _) (v3 := .bool _) (v4 := .bool _) (v5 := str _) (v6 := str _) (v7 := .int .i64 _) (v8 := .int .u8 _) ent33 rfl rfl rfl rfl rfl rfl rfl rfl rfl ((R2ref_form _ _ _ _ _ _ _ _ _).mono fun v w hp => ?_))
    obtain ⟨rfl, hp⟩ := hp
    replace hst := hst.keepc hp
    clear hp
    refine RunL.cons (Op1.store (v := .agg #[.int .u16 _, str _, .bool _, .bool _, str _, str _, .int .i64 _, .int .u8 _]) hst ty38 rfl rfl rfl rfl rfl (.here) (by repeat (first | exact Put.nil | apply Put.put | apply Put.skip)) fun w hst => ?_)
    refine RunL.cons (Op1.assign (v := .bool _) rfl ?_)
    refine RunL.nil ?_
    refine run_ret2 Try.func18 rfl (RV.cellA (vs := [.int .u16 _, str _, .bool _, .bool _, str _, str _, .int .i64 _, .int .u8 _]) rfl ty38 rfl rfl (cells_of_obj (n := 8) (hst.objL (.head _)) _ rfl)) (RV.tmp (v := .bool _) rfl) ?_
    subst g27
    have e : refS 59 = some ⟨59, [79, 112, 86, 97, 114, 105, 97, 98, 108, 101], true, true, [99], [105], 1, 7⟩ := by decide +kernel
    rw [e]
    exact ⟨rfl, hst.pure⟩
  refine run_seq ?_
  refine run_region ?_
  refine RunL.cons (Op1.eql rfl rfl ?_)
  refine RunL.cons (Op1.assign (v := .bool _) rfl ?_)
  refine RunL.nil ?_
  refine Run.forget [(0, .int .u16 _), (2, .pointer (some ⟨_, _, none⟩)), (4, .int .u16 _), (113, .bool _)] ⟨rfl, rfl, rfl, rfl, trivial⟩ (fun f => ?_)
  refine run_cond_dec rfl (fun g28 => ?_) (fun g28 => ?_)
  · skip
    refine run_seq ?_
    refine run_region ?_
    refine RunL.cons (Op1.move (v := .int .u16 _) rfl ?_)
    refine RunL.cons (Op1.call8 (v1 := .int .u16 _) (v2 := str _) (v3 := .bool _) (v4 := .bool _) (v5 := str _) (v6 := str _) (v7 := .int .i64 _) (v8 := .int .u8 _) ent33 rfl rfl rfl rfl rfl rfl rfl rfl rfl ((R2ref_form _ _ _ _ _ _ _ _ _).mono fun v w hp => ?_))
    obtain ⟨rfl, hp⟩ := hp
    replace hst := hst.keepc hp
    clear hp
    refine RunL.cons (Op1.store (v := .agg #[.int .u16 _, str _, .bool _, .bool _, str _, str _, .int .i64 _, .int .u8 _]) hst ty38 rfl rfl rfl rfl rfl (.here) (by repeat (first | exact Put.nil | apply Put.put | apply Put.skip)) fun w hst => ?_)
    refine RunL.cons (Op1.assign (v := .bool _) rfl ?_)
    refine RunL.nil ?_
    refine run_ret2 Try.func18 rfl (RV.cellA (vs := [.int .u16 _, str _, .bool _, .bool _, str _, str _, .int .i64 _, .int .u8 _]) rfl ty38 rfl rfl (cells_of_obj (n := 8) (hst.objL (.head _)) _ rfl)) (RV.tmp (v := .bool _) rfl) ?_
    subst g28
    have e : refS 61 = some ⟨61, [79, 112, 76, 111, 97, 100], true, true, [105], [], 0, 8⟩ := by decide +kernel
    rw [e]
    exact ⟨rfl, hst.pure⟩
  refine run_seq ?_
  refine run_region ?_
  refine RunL.cons (Op1.eql rfl rfl ?_)
  refine RunL.cons (Op1.assign (v := .bool _) rfl ?_)
  refine RunL.nil ?_
  refine run_cond_dec rfl (fun g29 => ?_) (fun g29 => ?_)
  · skip
    refine run_seq ?_
    refine run_region ?_
    refine RunL.cons (Op1.move (v := .int .u16 _) rfl ?_)
    refine RunL.cons (Op1.call8 (v1 := .int .u16 _) (v2 := str _) (v3 := .bool _) (v4 := .bool _) (v5 := str _) (v6 := str _) (v7 := .int .i64 _) (v8 := .int .u8 _) ent33 rfl rfl rfl rfl rfl rfl rfl rfl rfl ((R2ref_form _ _ _ _ _ _ _ _ _).mono fun v w hp => ?_))
    obtain ⟨rfl, hp⟩ := hp
    replace hst := hst.keepc hp
    clear hp
    refine RunL.cons (Op1.store (v := .agg #[.int .u16 _, str _, .bool _, .bool _, str _, str _, .int .i64 _, .int .u8 _]) hst ty38 rfl rfl rfl rfl rfl (.here) (by repeat (first | exact Put.nil | apply Put.put | apply Put.skip)) fun w hst => ?_)
    refine RunL.cons (Op1.assign (v := .bool _) rfl ?_)
    refine RunL.nil ?_
    refine run_ret2 Try.func18 rfl (RV.cellA (vs := [.int .u16 _, str _, .bool _, .bool _, str _, str _, .int .i64 _, .int .u8 _]) rfl ty38 rfl rfl (cells_of_obj (n := 8) (hst.objL (.head _)) _ rfl)) (RV.tmp (v := .bool _) rfl) ?_
    subst g29
    have e : refS 62 = some ⟨62, [79, 112, 83, 116, 111, 114, 101], false, false, [105, 105], [], 0, 8⟩ := by decide +kernel
    rw [e]
    exact ⟨rfl, hst.pure⟩
  refine run_seq ?_
  refine run_region ?_
  refine RunL.cons (Op1.eql rfl rfl ?_)
  refine RunL.cons (Op1.assign (v := .bool _) rfl ?_)
  refine RunL.nil ?_
  refine run_cond_dec rfl (fun g30 => ?_) (fun g30 => ?_)
  · skip
    refine run_seq ?_
    refine run_region ?_
    refine RunL.cons (Op1.move (v := .int .u16 _) rfl ?_)
    refine RunL.cons (Op1.call8 (v1 := .int .u16 _) (v2 := str _) (v3 := .bool _) (v4 := .bool _) (v5 := str _) (v6 := str _) (v7 := .int .i64 _) (v8 := .int .u8 _) ent33 rfl rfl rfl rfl rfl rfl rfl rfl rfl ((R2ref_form _ _ _ _ _ _ _ _ _).mono fun v w hp => ?_))
    obtain ⟨rfl, hp⟩ := hp
    replace hst := hst.keepc hp
    clear hp
    refine RunL.cons (Op1.store (v := .agg #[.int .u16 _, str _, .bool _, .bool _, str _, str _, .int .i64 _, .int .u8 _]) hst ty38 rfl rfl rfl rfl rfl (.here) (by repeat (first | exact Put.nil | apply Put.put | apply Put.skip)) fun w hst => ?_)
    refine RunL.cons (Op1.assign (v := .bool _) rfl ?_)
    refine RunL.nil ?_
    refine run_ret2 Try.func18 rfl (RV.cellA (vs := [.int .u16 _, str _, .bool _, .bool _, str _, str _, .int .i64 _, .int .u8 _]) rfl ty38 rfl rfl (cells_of_obj (n := 8) (hst.objL (.head _)) _ rfl)) (RV.tmp (v := .bool _) rfl) ?_
    subst g30
    have e : refS 65 = some ⟨65, [79, 112, 65, 99, 99, 101, 115, 115, 67, 104, 97, 105, 110], true, true, [105], [105], 0, 8⟩ := by decide +kernel
    rw [e]
    exact ⟨rfl, hst.pure⟩
  refine run_seq ?_
  refine run_region ?_
  refine RunL.cons (Op1.eql rfl rfl ?_)
  refine RunL.cons (Op1.assign (v := .bool _) rfl ?_)
  refine RunL.nil ?_
  refine run_cond_dec rfl (fun g31 => ?_) (fun g31 => ?_)
  · skip
    refine run_seq ?_
    refine run_region ?_
    refine RunL.cons (Op1.move (v := .int .u16 _) rfl ?_)
    refine RunL.cons (Op1.call8 (v1 := .int .u16 _) (v2 := str _) (v3 := .bool _) (v4 := .bool _) (v5 := str _) (v6 := str _) (v7 := .int .i64 _) (v8 := .int .u8 _) ent33 rfl rfl rfl rfl rfl rfl rfl rfl rfl ((R2ref_form _ _ _ _ _ _ _ _ _).mono fun v w hp => ?_))
    obtain ⟨rfl, hp⟩ := hp
    replace hst := hst.keepc hp
    clear hp
    refine RunL.cons (Op1.store (v := .agg #[.int .u16 _, str _, .bool _, .bool _, str _, str _, .int .i64 _, .int .u8 _]) hst ty38 rfl rfl rfl rfl rfl (.here) (by repeat (first | exact Put.nil | apply Put.put | apply Put.skip)) fun w hst => ?_)
    refine RunL.cons (Op1.assign (v := .bool _) rfl ?_)
    refine RunL.nil ?_
    refine run_ret2 Try.func18 rfl (RV.cellA (vs := [.int .u16 _, str _, .bool _, .bool _, str _, str _, .int .i64 _, .int .u8 _]) rfl ty38 rfl rfl (cells_of_obj (n := 8) (hst.objL (.head _)) _ rfl)) (RV.tmp (v := .bool _) rfl) ?_
    subst g31
    have e : refS 71 = some ⟨71, [79, 112, 68, 101, 99, 111, 114, 97, 116, 101], false, false, [105, 100], [110], 0, 6⟩ := by decide +kernel
    rw [e]
    exact ⟨rfl, hst.pure⟩
  refine run_seq ?_
  refine run_region ?_
  refine RunL.cons (Op1.eql rfl rfl ?_)
  refine RunL.cons (Op1.assign (v := .bool _) rfl ?_)
  refine RunL.nil ?_
  refine run_cond_dec rfl (fun g32 => ?_) (fun g32 => ?_)
  · skip
    refine run_seq ?_
    refine run_region ?_
    refine RunL.cons (Op1.move (v := .int .u16 _) rfl ?_)
    refine RunL.cons (Op1.call8 (v1 := .int .u16 _) (v2 := str _) (v3 := .bool _) (v4 := .bool _) (v5 := str _) (v6 := str _) (v7 := .int .i64 _) (v8 := .int .u8 _) ent33 rfl rfl rfl rfl rfl rfl rfl rfl rfl ((R2ref_form _ _ _ _ _ _ _ _ _).mono fun v w hp => ?_))
    obtain ⟨rfl, hp⟩ := hp
    replace hst := hst.keepc hp
    clear hp
    refine RunL.cons (Op1.store (v := .agg #[.int .u16 _, str _, .bool _, .bool _, str _, str _, .int .i64 _, .int .u8 _]) hst ty38 rfl rfl rfl rfl rfl (.here) (by repeat (first | exact Put.nil | apply Put.put | apply Put.skip)) fun w hst => ?_)
    refine RunL.cons (Op1.assign (v := .bool _) rfl ?_)
    refine RunL.nil ?_
    refine run_ret2 Try.func18 rfl (RV.cellA (vs := [.int .u16 _, str _, .bool _, .bool _, str _, str _, .int .i64 _, .int .u8 _]) rfl ty38 rfl rfl (cells_of_obj (n := 8) (hst.objL (.head _)) _ rfl)) (RV.tmp (v := .bool _) rfl) ?_
    subst g32
    have e : refS 77 = some ⟨77, [79, 112, 86, 101, 99, 116, 111, 114, 69, 120, 116, 114, 97, 99, 116, 68, 121, 110, 97, 109, 105, 99], true, true, [105, 105], [], 0, 8⟩ := by decide +kernel
    rw [e]
    exact ⟨rfl, hst.pure⟩
  refine run_seq ?_
  refine run_region ?_
  refine RunL.cons (Op1.eql rfl rfl ?_)
  refine RunL.cons (Op1.assign (v := .bool _) rfl ?_)
  refine RunL.nil ?_
  refine run_cond_dec rfl (fun g33 => ?_) (fun g33 => ?_)
  · skip
    refine run_seq ?_
    refine run_region ?_
    refine RunL.cons (Op1.move (v := .int .u16 _) rfl ?_)
    refine RunL.cons (Op1.call8 (v1 := .int .u16 _) (v2 := str _) (v3 := .bool _) (v4 := .bool _) (v5 := str _) (v6 := str _) (v7 := .int .i64 _) (v8 := .int .u8 _) ent33 rfl rfl rfl rfl rfl rfl rfl rfl rfl ((R2ref_form _ _ _ _ _ _ _ _ _).mono fun v w hp => ?_))
    obtain ⟨rfl, hp⟩ := hp
    replace hst := hst.keepc hp
    clear hp
    refine RunL.cons (Op1.store (v := .agg #[.int .u16 _, str _, .bool _, .bool _, str _, str _, .int .i64 _, .int .u8 _]) hst ty38 rfl rfl rfl rfl rfl (.here) (by repeat (first | exact Put.nil | apply Put.put | apply Put.skip)) fun w hst => ?_)
    refine RunL.cons (Op1.assign (v := .bool _) rfl ?_)
    refine RunL.nil ?_
    refine run_ret2 Try.func18 rfl (RV.cellA (vs := [.int .u16 _, str _, .bool _, .bool _, str _, str _, .int .i64 _, .int .u8 _]) rfl ty38 rfl rfl (cells_of_obj (n := 8) (hst.objL (.head _)) _ rfl)) (RV.tmp (v := .bool _) rfl) ?_
    subst g33
    have e : refS 78 = some ⟨78, [79, 112, 86, 101, 99, 116, 111, 114, 73, 110, 115, 101, 114, 116, 68, 121, 110, 97, 109, 105, 99], true, true, [105, 105, 105], [], 0, 8⟩ := by decide +kernel
    rw [e]
    exact ⟨rfl, hst.pure⟩
  refine run_seq ?_
  refine run_region ?_
  refine RunL.cons (Op1.eql rfl rfl ?_)
  refine RunL.cons (Op1.assign (v := .bool _) rfl ?_)
  refine RunL.nil ?_
  refine run_cond_dec rfl (fun g34 => ?_) (fun g34 => ?_)
  · skip
    refine run_seq ?_
    refine run_region ?_
    refine RunL.cons (Op1.move (v := .int .u16 _) rfl ?_)
    refine RunL.cons (Op1.call8 (v1 := .int .u16 _) (v2 := str _) (v3 := .bool _) (v4 := .bool _) (v5 := str _) (v6 := str _) (v7 := .int .i64 _) (v8 := .int .u8 _) ent33 rfl rfl rfl rfl rfl rfl rfl rfl rfl ((R2ref_form _ _ _ _ _ _ _ _ _).mono fun v w hp => ?_))
    obtain ⟨rfl, hp⟩ := hp
    replace hst := hst.keepc hp
    clear hp
    refine RunL.cons (Op1.store (v := .agg #[.int .u16 _, str _, .bool _, .bool _, str _, str _, .int .i64 _, .int .u8 _]) hst ty38 rfl rfl rfl rfl rfl (.here) (by repeat (first | exact Put.nil | apply Put.put | apply Put.skip)) fun w hst => ?_)
    refine RunL.cons (Op1.assign (v := .bool _) rfl ?_)
    refine RunL.nil ?_
    refine run_ret2 Try.func18 rfl (RV.cellA (vs := [.int .u16 _, str _, .bool _, .bool _, str _, str _, .int .i64 _, .int .u8 _]) rfl ty38 rfl rfl (cells_of_obj (n := 8) (hst.objL (.head _)) _ rfl)) (RV.tmp (v := .bool _) rfl) ?_
    subst g34
    have e : refS 79 = some ⟨79, [79, 112, 86, 101, 99, 116, 111, 114, 83, 104, 117, 102, 102, 108, 101], true, true, [105, 105], [110], 0, 8⟩ := by decide +kernel
    rw [e]
    exact ⟨rfl, hst.pure⟩
  refine run_seq ?_
  refine run_region ?_
  refine RunL.cons (Op1.eql rfl rfl ?_)
  refine RunL.cons (Op1.assign (v := .bool _) rfl ?_)
  refine RunL.nil ?_
  refine run_cond_dec rfl (fun g35 => ?_) (fun g35 => ?_)
  · skip
    refine run_seq ?_
    refine run_region ?_
    refine RunL.cons (Op1.move (v := .int .u16 _) rfl ?_)
    refine RunL.cons (Op1.call8 (v1 := .int .u16 _) (v2 := str _) (v3 := .bool _) (v4 := .bool _) (v5 := str _) (v6 := str _) (v7 := .int .i64 _) (v8 := .int .u8 _) ent33 rfl rfl rfl rfl rfl rfl rfl rfl rfl ((R2ref_form _ _ _ _ _ _ _ _ _).mono fun v w hp => ?_))
    obtain ⟨rfl, hp⟩ := hp
    replace hst := hst.keepc hp
    clear hp
    refine RunL.cons (Op1.store (v := .agg #[.int .u16 _, str _, .bool _, .bool _, str _, str _, .int .i64 _, .int .u8 _]) hst ty38 rfl rfl rfl rfl rfl (.here) (by repeat (first | exact Put.nil | apply Put.put | apply Put.skip)) fun w hst => ?_)
    refine RunL.cons (Op1.assign (v := .bool _) rfl ?_)
    refine RunL.nil ?_
    refine run_ret2 Try.func18 rfl (RV.cellA (vs := [.int .u16 _, str _, .bool _, .bool _, str _, str _, .int .i64 _, .int .u8 _]) rfl ty38 rfl rfl (cells_of_obj (n := 8) (hst.objL (.head _)) _ rfl)) (RV.tmp (v := .bool _) rfl) ?_
    subst g35
    have e : refS 80 = some ⟨80, [79, 112, 67, 111, 109, 112, 111, 115, 105, 116, 101, 67, 111, 110, 115, 116, 114, 117, 99, 116], true, true, [], [105], 0, 8⟩ := by decide +kernel
    rw [e]
    exact ⟨rfl, hst.pure⟩
  refine run_seq ?_
  refine run_region ?_
  refine RunL.cons (Op1.eql rfl rfl ?_)
  refine RunL.cons (Op1.assign (v := .bool _) rfl ?_)
  refine RunL.nil ?_
  refine run_cond_dec rfl (fun g36 => ?_) (fun g36 => ?_)
  · skip
    refine run_seq ?_
    refine run_region ?_
    refine RunL.cons (Op1.move (v := .int .u16 _) rfl ?_)
    refine RunL.cons (Op1.call8 (v1 := .int .u16 _) (v2 := str _) (v3 := .bool _) (v4 := .bool _) (v5 := str _) (v6 := str _) (v7 := .int .i64 _) (v8 := .int .u8 _) ent33 rfl rfl rfl rfl rfl rfl rfl rfl rfl ((R2ref_form _ _ _ _ _ _ _ _ _).mono fun v w hp => ?_))
    obtain ⟨rfl, hp⟩ := hp
    replace hst := hst.keepc hp
    clear hp
    refine RunL.cons (Op1.store (v := .agg #[.int .u16 _, str _, .bool _, .bool _, str _, str _, .int .i64 _, .int .u8 _]) hst ty38 rfl rfl rfl rfl rfl (.here) (by repeat (first | exact Put.nil | apply Put.put | apply Put.skip)) fun w hst => ?_)
    refine RunL.cons (Op1.assign (v := .bool _) rfl ?_)
    refine RunL.nil ?_
    refine run_ret2 Try.func18 rfl (RV.cellA (vs := [.int .u16 _, str _, .bool _, .bool _, str _, str _, .int .i64 _, .int .u8 _]) rfl ty38 rfl rfl (cells_of_obj (n := 8) (hst.objL (.head _)) _ rfl)) (RV.tmp (v := .bool _) rfl) ?_
    subst g36
    have e : refS 81 = some ⟨81, [79, 112, 67, 111, 109, 112, 111, 115, 105, 116, 101, 69, 120, 116, 114, 97, 99, 116], true, true, [105], [110], 0, 8⟩ := by decide +kernel
    rw [e]
    exact ⟨rfl, hst.pure⟩
  refine run_seq ?_
  refine run_region ?_
  refine RunL.cons (Op1.eql rfl rfl ?_)
  refine RunL.cons (Op1.assign (v := .bool _) rfl ?_)
  refine RunL.nil ?_
  refine run_cond_dec rfl (fun g37 => ?_) (fun g37 => ?_)
  · skip
    refine run_seq ?_
    refine run_region ?_
    refine RunL.cons (Op1.move (v := .int .u16 _) rfl ?_)
    refine RunL.cons (Op1.call8 (v1 := .int .u16 _) (v2 := str _) (v3 := .bool _) (v4 := .bool _) (v5 := str _) (v6 := str _) (v7 := .int .i64 _) (v8 := .int .u8 _) ent33 rfl rfl rfl rfl rfl rfl rfl rfl rfl ((R2ref_form _ _ _ _ _ _ _ _ _).mono fun v w hp => ?_))
    obtain ⟨rfl, hp⟩ := hp
    replace hst := hst.keepc hp
    clear hp
    refine RunL.cons (Op1.store (v := .agg #[.int .u16 _, str _, .bool _, .bool _, str _, str _, .int .i64 _, .int .u8 _]) hst ty38 rfl rfl rfl rfl rfl (.here) (by repeat (first | exact Put.nil | apply Put.put | apply Put.skip)) fun w hst => ?_)
    refine RunL.cons (Op1.assign (v := .bool _) rfl ?_)
    refine RunL.nil ?_
    refine run_ret2 Try.func18 rfl (RV.cellA (vs := [.int .u16 _, str _, .bool _, .bool _, str _, str _, .int .i64 _, .int .u8 _]) rfl ty38 rfl rfl (cells_of_obj (n := 8) (hst.objL (.head _)) _ rfl)) (RV.tmp (v := .bool _) rfl) ?_
    subst g37
    have e : refS 82 = some ⟨82, [79, 112, 67, 111, 109, 112, 111, 115, 105, 116, 101, 73, 110, 115, 101, 114, 116], true, true, [105, 105], [110], 0, 8⟩ := by decide +kernel
    rw [e]
    exact ⟨rfl, hst.pure⟩
  refine run_seq ?_
  refine run_region ?_
  refine RunL.cons (Op1.eql rfl rfl ?_)
  refine RunL.cons (Op1.assign (v := .bool _) rfl ?_)
  refine RunL.nil ?_
  refine Run.forget [(0, .int .u16 _), (2, .pointer (some ⟨_, _, none⟩)), (4, .int .u16 _), (153, .bool _)] ⟨rfl, rfl, rfl, rfl, trivial⟩ (fun f => ?_)
  refine run_cond_dec rfl (fun g38 => ?_) (fun g38 => ?_)
  · skip
    refine run_seq ?_
    refine run_region ?_
    refine RunL.cons (Op1.move (v := .int .u16 _) rfl ?_)
    refine RunL.cons (Op1.call8 (v1 := .int .u16 _) (v2 := str _) (v3 := .bool _) (v4 := .bool _) (v5 := str _) (v6 := str _) (v7 := .int .i64 _) (v8 := .int .u8 _) ent33 rfl rfl rfl rfl rfl rfl rfl rfl rfl ((R2ref_form _ _ _ _ _ _ _ _ _).mono fun v w hp => ?_))
    obtain ⟨rfl, hp⟩ := hp
    replace hst := hst.keepc hp
    clear hp
    refine RunL.cons (Op1.store (v := .agg #[.int .u16 _, str _, .bool _, .bool _, str _, str _, .int .i64 _, .int .u8 _]) hst ty38 rfl rfl rfl rfl rfl (.here) (by repeat (first | exact Put.nil | apply Put.put | apply Put.skip)) fun w hst => ?_)
    refine RunL.cons (Op1.assign (v := .bool _) rfl ?_)
    refine RunL.nil ?_
    refine run_ret2 Try.func18 rfl (RV.cellA (vs := [.int .u16 _, str _, .bool _, .bool _, str _, str _, .int .i64 _, .int .u8 _]) rfl ty38 rfl rfl (cells_of_obj (n := 8) (hst.objL (.head _)) _ rfl)) (RV.tmp (v := .bool _) rfl) ?_
    subst g38
    have e : refS 83 = some ⟨83, [79, 112, 67, 111, 112, 121, 79, 98, 106, 101, 99, 116], true, true, [105], [], 0, 8⟩ := by decide +kernel
    rw [e]
    exact ⟨rfl, hst.pure⟩
  refine run_seq ?_
  refine run_region ?_
  refine RunL.cons (Op1.eql rfl rfl ?_)
  refine RunL.cons (Op1.assign (v := .bool _) rfl ?_)
  refine RunL.nil ?_
  refine run_cond_dec rfl (fun g39 => ?_) (fun g39 => ?_)
  · skip
    refine run_seq ?_
    refine run_region ?_
    refine RunL.cons (Op1.move (v := .int .u16 _) rfl ?_)
    refine RunL.cons (Op1.call8 (v1 := .int .u16 _) (v2 := str _) (v3 := .bool _) (v4 := .bool _) (v5 := str _) (v6 := str _) (v7 := .int .i64 _) (v8 := .int .u8 _) ent33 rfl rfl rfl rfl rfl rfl rfl rfl rfl ((R2ref_form _ _ _ _ _ _ _ _ _).mono fun v w hp => ?_))
    obtain ⟨rfl, hp⟩ := hp
    replace hst := hst.keepc hp
    clear hp
    refine RunL.cons (Op1.store (v := .agg #[.int .u16 _, str _, .bool _, .bool _, str _, str _, .int .i64 _, .int .u8 _]) hst ty38 rfl rfl rfl rfl rfl (.here) (by repeat (first | exact Put.nil | apply Put.put | apply Put.skip)) fun w hst => ?_)
    refine RunL.cons (Op1.assign (v := .bool _) rfl ?_)
    refine RunL.nil ?_
    refine run_ret2 Try.func18 rfl (RV.cellA (vs := [.int .u16 _, str _, .bool _, .bool _, str _, str _, .int .i64 _, .int .u8 _]) rfl ty38 rfl rfl (cells_of_obj (n := 8) (hst.objL (.head _)) _ rfl)) (RV.tmp (v := .bool _) rfl) ?_
    subst g39
    have e : refS 124 = some ⟨124, [79, 112, 66, 105, 116, 99, 97, 115, 116], true, true, [105], [], 0, 8⟩ := by decide +kernel
    rw [e]
    exact ⟨rfl, hst.pure⟩
  refine run_seq ?_
  refine run_region ?_
  refine RunL.cons (Op1.eql rfl rfl ?_)
  refine RunL.cons (Op1.assign (v := .bool _) rfl ?_)
  refine RunL.nil ?_
  refine run_cond_dec rfl (fun g40 => ?_) (fun g40 => ?_)
  · skip
    refine run_seq ?_
    refine run_region ?_
    refine RunL.cons (Op1.move (v := .int .u16 _) rfl ?_)
    refine RunL.cons (Op1.call8 (v1 := .int .u16 _) (v2 := str _) (v3 := .bool _) (v4 := .bool _) (v5 := str _) (v6 := str _) (v7 := .int .i64 _) (v8 := .int .u8 _) ent33 rfl rfl rfl rfl rfl rfl rfl rfl rfl ((R2ref_form _ _ _ _ _ _ _ _ _).mono fun v w hp => ?_))
    obtain ⟨rfl, hp⟩ := hp
    replace hst := hst.keepc hp
    clear hp
    refine RunL.cons (Op1.store (v := .agg #[.int .u16 _, str _, .bool _, .bool _, str _, str _, .int .i64 _, .int .u8 _]) hst ty38 rfl rfl rfl rfl rfl (.here) (by repeat (first | exact Put.nil | apply Put.put | apply Put.skip)) fun w hst => ?_)
    refine RunL.cons (Op1.assign (v := .bool _) rfl ?_)
    refine RunL.nil ?_
    refine run_ret2 Try.func18 rfl (RV.cellA (vs := [.int .u16 _, str _, .bool _, .bool _, str _, str _, .int .i64 _, .int .u8 _]) rfl ty38 rfl rfl (cells_of_obj (n := 8) (hst.objL (.head _)) _ rfl)) (RV.tmp (v := .bool _) rfl) ?_
    subst g40
    have e : refS 126 = some ⟨126, [79, 112, 83, 78, 101, 103, 97, 116, 101], true, true, [105], [], 0, 8⟩ := by decide +kernel
    rw [e]
    exact ⟨rfl, hst.pure⟩
  refine run_seq ?_
  refine run_region ?_
  refine RunL.cons (Op1.eql rfl rfl ?_)
  refine RunL.cons (Op1.assign (v := .bool _) rfl ?_)
  refine RunL.nil ?_
  refine run_cond_dec rfl (fun g41 => ?_) (fun g41 => ?_)
  · skip
    refine run_seq ?_
    refine run_region ?_
    refine RunL.cons (Op1.move (v := .int .u16 _) rfl ?_)
    refine RunL.cons (Op1.call8 (v1 := .int .u16 _) (v2 := str _) (v3 := .bool _) (v4 := .bool _) (v5 := str _) (v6 := str _) (v7 := .int .i64 _) (v8 := .int .u8 _) ent33 rfl rfl rfl rfl rfl rfl rfl rfl rfl ((R2ref_form _ _ _ _ _ _ _ _ _).mono fun v w hp => ?_))
    obtain ⟨rfl, hp⟩ := hp
    replace hst := hst.keepc hp
    clear hp
    refine RunL.cons (Op1.store (v := .agg #[.int .u16 _, str _, .bool _, .bool _, str _, str _, .int .i64 _, .int .u8 _]) hst ty38 rfl rfl rfl rfl rfl (.here) (by repeat (first | exact Put.nil | apply Put.put | apply Put.skip)) fun w hst => ?_)
    refine RunL.cons (Op1.assign (v := .bool _) rfl ?_)
    refine RunL.nil ?_
    refine run_ret2 Try.func18 rfl (RV.cellA (vs := [.int .u16 _, str _, .bool _, .bool _, str _, str _, .int .i64 _, .int .u8 _]) rfl ty38 rfl rfl (cells_of_obj (n := 8) (hst.objL (.head _)) _ rfl)) (RV.tmp (v := .bool _) rfl) ?_
    subst g41
    have e : refS 128 = some ⟨128, [79, 112, 73, 65, 100, 100], true, true, [105, 105], [], 0, 8⟩ := by decide +kernel
    rw [e]
    exact ⟨rfl, hst.pure⟩
  refine run_seq ?_
  refine run_region ?_
  refine RunL.cons (Op1.eql rfl rfl ?_)
  refine RunL.cons (Op1.assign (v := .bool _) rfl ?_)
  refine RunL.nil ?_
  refine run_cond_dec rfl (fun g42 => ?_) (fun g42 => ?_)
  · skip
    refine run_seq ?_
    refine run_region ?_
    refine RunL.cons (Op1.move (v := .int .u16 _) rfl ?_)
    refine RunL.cons (Op1.call8 (v1 := .int .u16 _) (v2 := str _) (v3 := .bool _) (v4 := .bool _) (v5 := str _) (v6 := str _) (v7 := .int .i64 _) (v8 := .int .u8 _) ent33 rfl rfl rfl rfl rfl rfl rfl rfl rfl ((R2ref_form _ _ _ _ _ _ _ _ _).mono fun v w hp => ?_))
    obtain ⟨rfl, hp⟩ := hp
    replace hst := hst.keepc hp
    clear hp
    refine RunL.cons (Op1.store (v := .agg #[.int .u16 _, str _, .bool _, .bool _, str _, str _, .int .i64 _, .int .u8 _]) hst ty38 rfl rfl rfl rfl rfl (.here) (by repeat (first | exact Put.nil | apply Put.put | apply Put.skip)) fun w hst => ?_)
    refine RunL.cons (Op1.assign (v := .bool _) rfl ?_)
    refine RunL.nil ?_
    refine run_ret2 Try.func18 rfl (RV.cellA (vs := [.int .u16 _, str _, .bool _, .bool _, str _, str _, .int .i64 _, .int .u8 _]) rfl ty38 rfl rfl (cells_of_obj (n := 8) (hst.objL (.head _)) _ rfl)) (RV.tmp (v := .bool _) rfl) ?_
    subst g42
    have e : refS 130 = some ⟨130, [79, 112, 73, 83, 117, 98], true, true, [105, 105], [], 0, 8⟩ := by decide +kernel
    rw [e]
    exact ⟨rfl, hst.pure⟩
  refine run_seq ?_
  refine run_region ?_
  refine RunL.cons (Op1.eql rfl rfl ?_)
  refine RunL.cons (Op1.assign (v := .bool _) rfl ?_)
  refine RunL.nil ?_
  refine run_cond_dec rfl (fun g43 => ?_) (fun g43 => ?_)
  · skip
    refine run_seq ?_
    refine run_region ?_
    refine RunL.cons (Op1.move (v := .int .u16 _) rfl ?_)
    refine RunL.cons (Op1.call8 (v1 := .int .u16 _) (v2 := str _) (v3 := .bool _) (v4 := .bool _) (v5 := str _) (v6 := str _) (v7 := .int .i64 _) (v8 := .int .u8 _) ent33 rfl rfl rfl rfl rfl rfl rfl rfl rfl ((R2ref_form _ _ _ _ _ _ _ _ _).mono fun v w hp => ?_))
    obtain ⟨rfl, hp⟩ := hp
    replace hst := hst.keepc hp
    clear hp
    refine RunL.cons (Op1.store (v := .agg #[.int .u16 _, str _, .bool _, .bool _, str _, str _, .int .i64 _, .int .u8 _]) hst ty38 rfl rfl rfl rfl rfl (.here) (by repeat (first | exact Put.nil | apply Put.put | apply Put.skip)) fun w hst => ?_)
    refine RunL.cons (Op1.assign (v := .bool _) rfl ?_)
    refine RunL.nil ?_
    refine run_ret2 Try.func18 rfl (RV.cellA (vs := [.int .u16 _, str _, .bool _, .bool _, str _, str _, .int .i64 _, .int .u8 _]) rfl ty38 rfl rfl (cells_of_obj (n := 8) (hst.objL (.head _)) _ rfl)) (RV.tmp (v := .bool _) rfl) ?_
    subst g43
    have e : refS 132 = some ⟨132, [79, 112, 73, 77, 117, 108], true, true, [105, 105], [], 0, 8⟩ := by decide +kernel
    rw [e]
    exact ⟨rfl, hst.pure⟩
  refine run_seq ?_
  refine run_region ?_
  refine RunL.cons (Op1.eql rfl rfl ?_)
  refine RunL.cons (Op1.assign (v := .bool _) rfl ?_)
  refine RunL.nil ?_
  refine run_cond_dec rfl (fun g44 => ?_) (fun g44 => ?_)
  · skip
    refine run_seq ?_
    refine run_region ?_
    refine RunL.cons (Op1.move (v := .int .u16 _) rfl ?_)
    refine RunL.cons (Op1.call8 (v1 := .int .u16 _) (v2 := str _) (v3 := .bool _) (v4 := .bool _) (v5 := str _) (v6 := str _) (v7 := .int .i64 _) (v8 := .int .u8 _) ent33 rfl rfl rfl rfl rfl rfl rfl rfl rfl ((R2ref_form _ _ _ _ _ _ _ _ _).mono fun v w hp => ?_))
    obtain ⟨rfl, hp⟩ := hp
    replace hst := hst.keepc hp
    clear hp
    refine RunL.cons (Op1.store (v := .agg #[.int .u16 _, str _, .bool _, .bool _, str _, str _, .int .i64 _, .int .u8 _]) hst ty38 rfl rfl rfl rfl rfl (.here) (by repeat (first | exact Put.nil | apply Put.put | apply Put.skip)) fun w hst => ?_)
    refine RunL.cons (Op1.assign (v := .bool _) rfl ?_)
    refine RunL.nil ?_
    refine run_ret2 Try.func18 rfl (RV.cellA (vs := [.int .u16 _, str _, .bool _, .bool _, str _, str _, .int .i64 _, .int .u8 _]) rfl ty38 rfl rfl (cells_of_obj (n := 8) (hst.objL (.head _)) _ rfl)) (RV.tmp (v := .bool _) rfl) ?_
    subst g44
    have e : refS 134 = some ⟨134, [79, 112, 85, 68, 105, 118], true, true, [105, 105], [], 0, 8⟩ := by decide +kernel
    rw [e]
    exact ⟨rfl, hst.pure⟩
  refine run_seq ?_
  refine run_region ?_
  refine RunL.cons (Op1.eql rfl rfl ?_)
  refine RunL.cons (Op1.assign (v := .bool _) rfl ?_)
  refine RunL.nil ?_
  refine run_cond_dec rfl (fun g45 => ?_) (fun g45 => ?_)
  · skip
    refine run_seq ?_
    refine run_region ?_
    refine RunL.cons (Op1.move (v := .int .u16 _) rfl ?_)
    refine RunL.cons (Op1.call8 (v1 := .int .u16 _) (v2 := str _) (v3 := .bool _) (v4 := .bool _) (v5 := str _) (v6 := str _) (v7 := .int .i64 _) (v8 := .int .u8 _) ent33 rfl rfl rfl rfl rfl rfl rfl rfl rfl ((R2ref_form _ _ _ _ _ _ _ _ _).mono fun v w hp => ?_))
    obtain ⟨rfl, hp⟩ := hp
    replace hst := hst.keepc hp
    clear hp
    refine RunL.cons (Op1.store (v := .agg #[.int .u16 _, str _, .bool _, .bool _, str _, str _, .int .i64 _, .int .u8 _]) hst ty38 rfl rfl rfl rfl rfl (.here) (by repeat (first | exact Put.nil | apply Put.put | apply Put.skip)) fun w hst => ?_)
    refine RunL.cons (Op1.assign (v := .bool _) rfl ?_)
    refine RunL.nil ?_
    refine run_ret2 Try.func18 rfl (RV.cellA (vs := [.int .u16 _, str _, .bool _, .bool _, str _, str _, .int .i64 _, .int .u8 _]) rfl ty38 rfl rfl (cells_of_obj (n := 8) (hst.objL (.head _)) _ rfl)) (RV.tmp (v := .bool _) rfl) ?_
    subst g45
    have e : refS 135 = some ⟨135, [79, 112, 83, 68, 105, 118], true, true, [105, 105], [], 0, 8⟩ := by decide +kernel
    rw [e]
    exact ⟨rfl, hst.pure⟩
  refine run_seq ?_
  refine run_region ?_
  refine RunL.cons (Op1.eql rfl rfl ?_)
  refine RunL.cons (Op1.assign (v := .bool _) rfl ?_)
  refine RunL.nil ?_
  refine run_cond_dec rfl (fun g46 => ?_) (fun g46 => ?_)
  · skip
    refine run_seq ?_
    refine run_region ?_
    refine RunL.cons (Op1.move (v := .int .u16 _) rfl ?_)
    refine RunL.cons (Op1.call8 (v1 := .int .u16 _) (v2 := str _) (v3 := .bool _) (v4 := .bool _) (v5 := str _) (v6 := str _) (v7 := .int .i64 _) (v8 := .int .u8 _) ent33 rfl rfl rfl rfl rfl rfl rfl rfl rfl ((R2ref_form _ _ _ _ _ _ _ _ _).mono fun v w hp => ?_))
    obtain ⟨rfl, hp⟩ := hp
    replace hst := hst.keepc hp
    clear hp
    refine RunL.cons (Op1.store (v := .agg #[.int .u16 _, str _, .bool _, .bool _, str _, str _, .int .i64 _, .int .u8 _]) hst ty38 rfl rfl rfl rfl rfl (.here) (by repeat (first | exact Put.nil | apply Put.put | apply Put.skip)) fun w hst => ?_)
    refine RunL.cons (Op1.assign (v := .bool _) rfl ?_)
    refine RunL.nil ?_
    refine run_ret2 Try.func18 rfl (RV.cellA (vs := [.int .u16 _, str _, .bool _, .bool _, str _, str _, .int .i64 _, .int .u8 _]) rfl ty38 rfl rfl (cells_of_obj (n := 8) (hst.objL (.head _)) _ rfl)) (RV.tmp (v := .bool _) rfl) ?_
    subst g46
    have e : refS 137 = some ⟨137, [79, 112, 85, 77, 111, 100], true, true, [105, 105], [], 0, 8⟩ := by decide +kernel
    rw [e]
    exact ⟨rfl, hst.pure⟩
  refine run_seq ?_
  refine run_region ?_
  refine RunL.cons (Op1.eql rfl rfl ?_)
  refine RunL.cons (Op1.assign (v := .bool _) rfl ?_)
  refine RunL.nil ?_
  refine run_cond_dec rfl (fun g47 => ?_) (fun g47 => ?_)
  · skip
    refine run_seq ?_
    refine run_region ?_
    refine RunL.cons (Op1.move (v := .int .u16 _) rfl ?_)
    refine RunL.cons (Op1.call8 (v1 := .int .u16 _) (v2 := str _) (v3 := .bool _) (v4 := .bool _) (v5 := str _) (v6 := str _) (v7 := .int .i64 _) (v8 := .int .u8 _) ent33 rfl rfl rfl rfl rfl rfl rfl rfl rfl ((R2ref_form _ _ _ _ _ _ _ _ _).mono fun v w hp => ?_))
    obtain ⟨rfl, hp⟩ := hp
    replace hst := hst.keepc hp
    clear hp
    refine RunL.cons (Op1.store (v := .agg #[.int .u16 _, str _, .bool _, .bool _, str _, str _, .int .i64 _, .int .u8 _]) hst ty38 rfl rfl rfl rfl rfl (.here) (by repeat (first | exact Put.nil | apply Put.put | apply Put.skip)) fun w hst => ?_)
    refine RunL.cons (Op1.assign (v := .bool _) rfl ?_)
    refine RunL.nil ?_
    refine run_ret2 Try.func18 rfl (RV.cellA (vs := [.int .u16 _, str _, .bool _, .bool _, str _, str _, .int .i64 _, .int .u8 _]) rfl ty38 rfl rfl (cells_of_obj (n := 8) (hst.objL (.head _)) _ rfl)) (RV.tmp (v := .bool _) rfl) ?_
    subst g47
    have e : refS 138 = some ⟨138, [79, 112, 83, 82, 101, 109], true, true, [105, 105], [], 0, 8⟩ := by decide +kernel
    rw [e]
    exact ⟨rfl, hst.pure⟩
  refine run_seq ?_
  refine run_region ?_
  refine RunL.cons (Op1.eql rfl rfl ?_)
  refine RunL.cons (Op1.assign (v := .bool _) rfl ?_)
  refine RunL.nil ?_
  refine Run.forget [(0, .int .u16 _), (2, .pointer (some ⟨_, _, none⟩)), (4, .int .u16 _), (193, .bool _)] ⟨rfl, rfl, rfl, rfl, trivial⟩ (fun f => ?_)
  refine run_cond_dec rfl (fun g48 => ?_) (fun g48 => ?_)
  · skip
    refine run_seq ?_
    refine run_region ?_
    refine RunL.cons (Op1.move (v := .int .u16 _) rfl ?_)
    refine RunL.cons (Op1.call8 (v1 := .int .u16 _) (v2 := str _) (v3 := .bool _) (v4 := .bool _) (v5 := str _) (v6 := str _) (v7 := .int .i64 _) (v8 := .int .u8 _) ent33 rfl rfl rfl rfl rfl rfl rfl rfl rfl ((R2ref_form _ _ _ _ _ _ _ _ _).mono fun v w hp => ?_))
    obtain ⟨rfl, hp⟩ := hp
    replace hst := hst.keepc hp
    clear hp
    refine RunL.cons (Op1.store (v := .agg #[.int .u16 _, str _, .bool _, .bool _, str _, str _, .int .i64 _, .int .u8 _]) hst ty38 rfl rfl rfl rfl rfl (.here) (by repeat (first | exact Put.nil | apply Put.put | apply Put.skip)) fun w hst => ?_)
    refine RunL.cons (Op1.assign (v := .bool _) rfl ?_)
    refine RunL.nil ?_
    refine run_ret2 Try.func18 rfl (RV.cellA (vs := [.int .u16 _, str _, .bool _, .bool _, str _, str _, .int .i64 _, .int .u8 _]) rfl ty38 rfl rfl (cells_of_obj (n := 8) (hst.objL (.head _)) _ rfl)) (RV.tmp (v := .bool _) rfl) ?_
    subst g48
    have e : refS 139 = some ⟨139, [79, 112, 83, 77, 111, 100], true, true, [105, 105], [], 0, 8⟩ := by decide +kernel
    rw [e]
    exact ⟨rfl, hst.pure⟩
  refine run_seq ?_
  refine run_region ?_
  refine RunL.cons (Op1.eql rfl rfl ?_)
  refine RunL.cons (Op1.assign (v := .bool _) rfl ?_)
  refine RunL.nil ?_
  refine run_cond_dec rfl (fun g49 => ?_) (fun g49 => ?_)
  · skip
    refine run_seq ?_
    refine run_region ?_
    refine RunL.cons (Op1.move (v := .int .u16 _) rfl ?_)
    refine RunL.cons (Op1.call8 (v1 := .int .u16 _) (v2 := str _) (v3 := .bool _) (v4 := .bool _) (v5 := str _) (v6 := str _) (v7 := .int .i64 _) (v8 := .int .u8 _) ent33 rfl rfl rfl rfl rfl rfl rfl rfl rfl ((R2ref_form _ _ _ _ _ _ _ _ _).mono fun v w hp => ?_))
    obtain ⟨rfl, hp⟩ := hp
    replace hst := hst.keepc hp
    clear hp
    refine RunL.cons (Op1.store (v := .agg #[.int .u16 _, str _, .bool _, .bool _, str _, str _, .int .i64 _, .int .u8 _]) hst ty38 rfl rfl rfl rfl rfl (.here) (by repeat (first | exact Put.nil | apply Put.put | apply Put.skip)) fun w hst => ?_)
    refine RunL.cons (Op1.assign (v := .bool _) rfl ?_)
    refine RunL.nil ?_
    refine run_ret2 Try.func18 rfl (RV.cellA (vs := [.int .u16 _, str _, .bool _, .bool _, str _, str _, .int .i64 _, .int .u8 _]) rfl ty38 rfl rfl (cells_of_obj (n := 8) (hst.objL (.head _)) _ rfl)) (RV.tmp (v := .bool _) rfl) ?_
    subst g49
    have e : refS 149 = some ⟨149, [79, 112, 73, 65, 100, 100, 67, 97, 114, 114, 121], true, true, [105, 105], [], 0, 8⟩ := by decide +kernel
    rw [e]
    exact ⟨rfl, hst.pure⟩
  refine run_seq ?_
  refine run_region ?_
  refine RunL.cons (Op1.eql rfl rfl ?_)
  refine RunL.cons (Op1.assign (v := .bool _) rfl ?_)
  refine RunL.nil ?_
  refine run_cond_dec rfl (fun g50 => ?_) (fun g50 => ?_)
  · skip
    refine run_seq ?_
    refine run_region ?_
    refine RunL.cons (Op1.move (v := .int .u16 _) rfl ?_)
    refine RunL.cons (Op1.call8 (v1 := .int .u16 _) (v2 := str _) (v3 := .bool _) (v4 := .bool _) (v5 := str _) (v6 := str _) (v7 := .int .i64 _) (v8 := .int .u8 _) ent33 rfl rfl rfl rfl rfl rfl rfl rfl rfl ((R2ref_form _ _ _ _ _ _ _ _ _).mono fun v w hp => ?_))
    obtain ⟨rfl, hp⟩ := hp
    replace hst := hst.keepc hp
    clear hp
    refine RunL.cons (Op1.store (v := .agg #[.int .u16 _, str _, .bool _, .bool _, str _, str _, .int .i64 _, .int .u8 _]) hst ty38 rfl rfl rfl rfl rfl (.here) (by repeat (first | exact Put.nil | apply Put.put | apply Put.skip)) fun w hst => ?_)
    refine RunL.cons (Op1.assign (v := .bool _) rfl ?_)
    refine RunL.nil ?_
    refine run_ret2 Try.func18 rfl (RV.cellA (vs := [.int .u16 _, str _, .bool _, .bool _, str _, str _, .int .i64 _, .int .u8 _]) rfl ty38 rfl rfl (cells_of_obj (n := 8) (hst.objL (.head _)) _ rfl)) (RV.tmp (v := .bool _) rfl) ?_
    subst g50
    have e : refS 150 = some ⟨150, [79, 112, 73, 83, 117, 98, 66, 111, 114, 114, 111, 119], true, true, [105, 105], [], 0, 8⟩ := by decide +kernel
    rw [e]
    exact ⟨rfl, hst.pure⟩
  refine run_seq ?_
  refine run_region ?_
  refine RunL.cons (Op1.eql rfl rfl ?_)
  refine RunL.cons (Op1.assign (v := .bool _) rfl ?_)
  refine RunL.nil ?_
  refine run_cond_dec rfl (fun g51 => ?_) (fun g51 => ?_)
  · skip
    refine run_seq ?_
    refine run_region ?_
    refine RunL.cons (Op1.move (v := .int .u16 _) rfl ?_)
    refine RunL.cons (Op1.call8 (v1 := .int .u16 _) (v2 := str _) (v3 := .bool _) (v4 := .bool _) (v5 := str _) (v6 := str _) (v7 := .int .i64 _) (v8 := .int .u8 _) ent33 rfl rfl rfl rfl rfl rfl rfl rfl rfl ((R2ref_form _ _ _ _ _ _ _ _ _).mono fun v w hp => ?_))
    obtain ⟨rfl, hp⟩ := hp
    replace hst := hst.keepc hp
    clear hp
    refine RunL.cons (Op1.store (v := .agg #[.int .u16 _, str _, .bool _, .bool _, str _, str _, .int .i64 _, .int .u8 _]) hst ty38 rfl rfl rfl rfl rfl (.here) (by repeat (first | exact Put.nil | apply Put.put | apply Put.skip)) fun w hst => ?_)
    refine RunL.cons (Op1.assign (v := .bool _) rfl ?_)
    refine RunL.nil ?_
    refine run_ret2 Try.func18 rfl (RV.cellA (vs := [.int .u16 _, str _, .bool _, .bool _, str _, str _, .int .i64 _, .int .u8 _]) rfl ty38 rfl rfl (cells_of_obj (n := 8) (hst.objL (.head _)) _ rfl)) (RV.tmp (v := .bool _) rfl) ?_
    subst g51
    have e : refS 151 = some ⟨151, [79, 112, 85, 77, 117, 108, 69, 120, 116, 101, 110, 100, 101, 100], true, true, [105, 105], [], 0, 8⟩ := by decide +kernel
    rw [e]
    exact ⟨rfl, hst.pure⟩
  refine run_seq ?_
  refine run_region ?_
  refine RunL.cons (Op1.eql rfl rfl ?_)
  refine RunL.cons (Op1.assign (v := .bool _) rfl ?_)
  refine RunL.nil ?_
  refine run_cond_dec rfl (fun g52 => ?_) (fun g52 => ?_)
  · skip
    refine run_seq ?_
    refine run_region ?_
    refine RunL.cons (Op1.move (v := .int .u16 _) rfl ?_)
    refine RunL.cons (Op1.call8 (v1 := .int .u16 _) (v2 := str _) (v3 := .bool _) (v4 := .bool _) (v5 := str _) (v6 := str _) (v7 := .int .i64 _) (v8 := .int .u8 _) ent33 rfl rfl rfl rfl rfl rfl rfl rfl rfl ((R2ref_form _ _ _ _ _ _ _ _ _).mono fun v w hp => ?_))
    obtain ⟨rfl, hp⟩ := hp
    replace hst := hst.keepc hp
    clear hp
    refine RunL.cons (Op1.store (v := .agg #[.int .u16 _, str _, .bool _, .bool _, str _, str _, .int .i64 _, .int .u8 _]) hst ty38 rfl rfl rfl rfl rfl (.here) (by repeat (first | exact Put.nil | apply Put.put | apply Put.skip)) fun w hst => ?_)
    refine RunL.cons (Op1.assign (v := .bool _) rfl ?_)
    refine RunL.nil ?_
    refine run_ret2 Try.func18 rfl (RV.cellA (vs := [.int .u16 _, str _, .bool _, .bool _, str _, str _, .int .i64 _, .int .u8 _]) rfl ty38 rfl rfl (cells_of_obj (n := 8) (hst.objL (.head _)) _ rfl)) (RV.tmp (v := .bool _) rfl) ?_
    subst g52
    have e : refS 152 = some ⟨152, [79, 112, 83, 77, 117, 108, 69, 120, 116, 101, 110, 100, 101, 100], true, true, [105, 105], [], 0, 8⟩ := by decide +kernel
    rw [e]
    exact ⟨rfl, hst.pure⟩
  refine run_seq ?_
  refine run_region ?_
  refine RunL.cons (Op1.eql rfl rfl ?_)
  refine RunL.cons (Op1.assign (v := .bool _) rfl ?_)
  refine RunL.nil ?_
  refine run_cond_dec rfl (fun g53 => ?_) (fun g53 => ?_)
  · skip
    refine run_seq ?_
    refine run_region ?_
    refine RunL.cons (Op1.move (v := .int .u16 _) rfl ?_)
    refine RunL.cons (Op1.call8 (v1 := .int .u16 _) (v2 := str _) (v3 := .bool _) (v4 := .bool _) (v5 := str _) (v6 := str _) (v7 := .int .i64 _) (v8 := .int .u8 _) ent33 rfl rfl rfl rfl rfl rfl rfl rfl rfl ((R2ref_form _ _ _ _ _ _ _ _ _).mono fun v w hp => ?_))
    obtain ⟨rfl, hp⟩ := hp
    replace hst := hst.keepc hp
    clear hp
    refine RunL.cons (Op1.store (v := .agg #[.int .u16 _, str _, .bool _, .bool _, str _, str _, .int .i64 _, .int .u8 _]) hst ty38 rfl rfl rfl rfl rfl (.here) (by repeat (first | exact Put.nil | apply Put.put | apply Put.skip)) fun w hst => ?_)
    refine RunL.cons (Op1.assign (v := .bool _) rfl ?_)
    refine RunL.nil ?_
    refine run_ret2 Try.func18 rfl (RV.cellA (vs := [.int .u16 _, str _, .bool _, .bool _, str _, str _, .int .i64 _, .int .u8 _]) rfl ty38 rfl rfl (cells_of_obj (n := 8) (hst.objL (.head _)) _ rfl)) (RV.tmp (v := .bool _) rfl) ?_
    subst g53
    have e : refS 154 = some ⟨154, [79, 112, 65, 110, 121], true, true, [105], [], 0, 8⟩ := by decide +kernel
    rw [e]
    exact ⟨rfl, hst.pure⟩
  refine run_seq ?_
  refine run_region ?_
  refine RunL.cons (Op1.eql rfl rfl ?_)
  refine RunL.cons (Op1.assign (v := .bool _) rfl ?_)
  refine RunL.nil ?_
  refine run_cond_dec rfl (fun g54 => ?_) (fun g54 => ?_)
  · skip
    refine run_seq ?_
    refine run_region ?_
    refine RunL.cons (Op1.move (v := .int .u16 _) rfl ?_)
    refine RunL.cons (Op1.call8 (v1 := .int .u16 _) (v2 := str _) (v3 := .bool _) (v4 := .bool _) (v5 := str _) (v6 := str _) (v7 := .int .i64 _) (v8 := .int .u8 _) ent33 rfl rfl rfl rfl rfl rfl rfl rfl rfl ((R2ref_form _ _ _ _ _ _ _ _ _).mono fun v w hp => ?_))
    obtain ⟨rfl, hp⟩ := hp
    replace hst := hst.keepc hp
    clear hp
    refine RunL.cons (Op1.store (v := .agg #[.int .u16 _, str _, .bool _, .bool _, str _, str _, .int .i64 _, .int .u8 _]) hst ty38 rfl rfl rfl rfl rfl (.here) (by repeat (first | exact Put.nil | apply Put.put | apply Put.skip)) fun w hst => ?_)
    refine RunL.cons (Op1.assign (v := .bool _) rfl ?_)
    refine RunL.nil ?_
    refine run_ret2 Try.func18 rfl (RV.cellA (vs := [.int .u16 _, str _, .bool _, .bool _, str _, str _, .int .i64 _, .int .u8 _]) rfl ty38 rfl rfl (cells_of_obj (n := 8) (hst.objL (.head _)) _ rfl)) (RV.tmp (v := .bool _) rfl) ?_
    subst g54
    have e : refS 155 = some ⟨155, [79, 112, 65, 108, 108], true, true, [105], [], 0, 8⟩ := by decide +kernel
    rw [e]
    exact ⟨rfl, hst.pure⟩
  refine run_seq ?_
  refine run_region ?_
  refine RunL.cons (Op1.eql rfl rfl ?_)
  refine RunL.cons (Op1.assign (v := .bool _) rfl ?_)
  refine RunL.nil ?_
  refine run_cond_dec rfl (fun g55 => ?_) (fun g55 => ?_)
  · skip
    refine run_seq ?_
    refine run_region ?_
    refine RunL.cons (Op1.move (v := .int .u16 _) rfl ?_)
    refine RunL.cons (Op1.call8 (v1 := .int .u16 _) (v2 := str _) (v3 := .bool _) (v4 := .bool _) (v5 := str _) (v6 := str _) (v7 := .int .i64 _) (v8 := .int .u8 _) ent33 rfl rfl rfl rfl rfl rfl rfl rfl rfl ((R2ref_form _ _ _ _ _ _ _ _ _).mono fun v w hp => ?_))
    obtain ⟨rfl, hp⟩ := hp
    replace hst := hst.keepc hp
    clear hp
    refine RunL.cons (Op1.store (v := .agg #[.int .u16 _, str _, .bool _, .bool _, str _, str _, .int .i64 _, .int .u8 _]) hst ty38 rfl rfl rfl rfl rfl (.here) (by repeat (first | exact Put.nil | apply Put.put | apply Put.skip)) fun w hst => ?_)
    refine RunL.cons (Op1.assign (v := .bool _) rfl ?_)
    refine RunL.nil ?_
    refine run_ret2 Try.func18 rfl (RV.cellA (vs := [.int .u16 _, str _, .bool _, .bool _, str _, str _, .int .i64 _, .int .u8 _]) rfl ty38 rfl rfl (cells_of_obj (n := 8) (hst.objL (.head _)) _ rfl)) (RV.tmp (v := .bool _) rfl) ?_
    subst g55
    have e : refS 164 = some ⟨164, [79, 112, 76, 111, 103, 105, 99, 97, 108, 69, 113, 117, 97, 108], true, true, [105, 105], [], 0, 8⟩ := by decide +kernel
    rw [e]
    exact ⟨rfl, hst.pure⟩
  refine run_seq ?_
  refine run_region ?_
  refine RunL.cons (Op1.eql rfl rfl ?_)
  refine RunL.cons (Op1.assign (v := .bool _) rfl ?_)
  refine RunL.nil ?_
  refine run_cond_dec rfl (fun g56 => ?_) (fun g56 => ?_)
  · skip
    refine run_seq ?_
    refine run_region ?_
    refine RunL.cons (Op1.move (v := .int .u16 _) rfl ?_)
    refine RunL.cons (Op1.call8 (v1 := .int .u16 _) (v2 := str _) (v3 := .bool _) (v4 := .bool _) (v5 := str _) (v6 := str _) (v7 := .int .i64 _) (v8 := .int .u8 _) ent33 rfl rfl rfl rfl rfl rfl rfl rfl rfl ((R2ref_form _ _ _ _ _ _ _ _ _).mono fun v w hp => ?_))
    obtain ⟨rfl, hp⟩ := hp
    replace hst := hst.keepc hp
    clear hp
    refine RunL.cons (Op1.store (v := .agg #[.int .u16 _, str _, .bool _, .bool _, str _, str _, .int .i64 _, .int .u8 _]) hst ty38 rfl rfl rfl rfl rfl (.here) (by repeat (first | exact Put.nil | apply Put.put | apply Put.skip)) fun w hst => ?_)
    refine RunL.cons (Op1.assign (v := .bool _) rfl ?_)
    refine RunL.nil ?_
    refine run_ret2 Try.func18 rfl (RV.cellA (vs := [.int .u16 _, str _, .bool _, .bool _, str _, str _, .int .i64 _, .int .u8 _]) rfl ty38 rfl rfl (cells_of_obj (n := 8) (hst.objL (.head _)) _ rfl)) (RV.tmp (v := .bool _) rfl) ?_
    subst g56
    have e : refS 165 = some ⟨165, [79, 112, 76, 111, 103, 105, 99, 97, 108, 78, 111, 116, 69, 113, 117, 97, 108], true, true, [105, 105], [], 0, 8⟩ := by decide +kernel
    rw [e]
    exact ⟨rfl, hst.pure⟩
  refine run_seq ?_
  refine run_region ?_
  refine RunL.cons (Op1.eql rfl rfl ?_)
  refine RunL.cons (Op1.assign (v := .bool _) rfl ?_)
  refine RunL.nil ?_
  refine run_cond_dec rfl (fun g57 => ?_) (fun g57 => ?_)
  · skip
    refine run_seq ?_
    refine run_region ?_
    refine RunL.cons (Op1.move (v := .int .u16 _) rfl ?_)
    refine RunL.cons (Op1.call8 (v1 := .int .u16 _) (v2 := str _) (v3 := .bool _) (v4 := .bool _) (v5 := str _) (v6 := str _) (v7 := .int .i64 _) (v8 := .int .u8 _) ent33 rfl rfl rfl rfl rfl rfl rfl rfl rfl ((R2ref_form _ _ _ _ _ _ _ _ _).mono fun v w hp => ?_))
    obtain ⟨rfl, hp⟩ := hp
    replace hst := hst.keepc hp
    clear hp
    refine RunL.cons (Op1.store (v := .agg #[.int .u16 _, str _, .bool _, .bool _, str _, str _, .int .i64 _, .int .u8 _]) hst ty38 rfl rfl rfl rfl rfl (.here) (by repeat (first | exact Put.nil | apply Put.put | apply Put.skip)) fun w hst => ?_)
    refine RunL.cons (Op1.assign (v := .bool _) rfl ?_)
    refine RunL.nil ?_
    refine run_ret2 Try.func18 rfl (RV.cellA (vs := [.int .u16 _, str _, .bool _, .bool _, str _, str _, .int .i64 _, .int .u8 _]) rfl ty38 rfl rfl (cells_of_obj (n := 8) (hst.objL (.head _)) _ rfl)) (RV.tmp (v := .bool _) rfl) ?_
    subst g57
    have e : refS 166 = some ⟨166, [79, 112, 76, 111, 103, 105, 99, 97, 108, 79, 114], true, true, [105, 105], [], 0, 8⟩ := by decide +kernel
    rw [e]
    exact ⟨rfl, hst.pure⟩
  refine run_seq ?_
  refine run_region ?_
  refine RunL.cons (Op1.eql rfl rfl ?_)
  refine RunL.cons (Op1.assign (v := .bool _) rfl ?_)
  refine RunL.nil ?_
  refine Run.forget [(0, .int .u16 _), (2, .pointer (some ⟨_, _, none⟩)), (4, .int .u16 _), (233, .bool _)] ⟨rfl, rfl, rfl, rfl, trivial⟩ (fun f => ?_)
  refine run_cond_dec rfl (fun g58 => ?_) (fun g58 => ?_)
  · skip
    refine run_seq ?_
    refine run_region ?_
    refine RunL.cons (Op1.move (v := .int .u16 _) rfl ?_)
    refine RunL.cons (Op1.call8 (v1 := .int .u16 _) (v2 := str _) (v3 := .bool _) (v4 := .bool _) (v5 := str _) (v6 := str _) (v7 := .int .i64 _) (v8 := .int .u8 _) ent33 rfl rfl rfl rfl rfl rfl rfl rfl rfl ((R2ref_form _ _ _ _ _ _ _ _ _).mono fun v w hp => ?_))
    obtain ⟨rfl, hp⟩ := hp
    replace hst := hst.keepc hp
    clear hp
    refine RunL.cons (Op1.store (v := .agg #[.int .u16 _, str _, .bool _, .bool _, str _, str _, .int .i64 _, .int .u8 _]) hst ty38 rfl rfl rfl rfl rfl (.here) (by repeat (first | exact Put.nil | apply Put.put | apply Put.skip)) fun w hst => ?_)
    refine RunL.cons (Op1.assign (v := .bool _) rfl ?_)
    refine RunL.nil ?_
    refine run_ret2 Try.func18 rfl (RV.cellA (vs := [.int .u16 _, str _, .bool _, .bool _, str _, str _, .int .i64 _, .int .u8 _]) rfl ty38 rfl rfl (cells_of_obj (n := 8) (hst.objL (.head _)) _ rfl)) (RV.tmp (v := .bool _) rfl) ?_
    subst g58
    have e : refS 167 = some ⟨167, [79, 112, 76, 111, 103, 105, 99, 97, 108, 65, 110, 100], true, true, [105, 105], [], 0, 8⟩ := by decide +kernel
    rw [e]
    exact ⟨rfl, hst.pure⟩
  refine run_seq ?_
  refine run_region ?_
  refine RunL.cons (Op1.eql rfl rfl ?_)
  refine RunL.cons (Op1.assign (v := .bool _) rfl ?_)
  refine RunL.nil ?_
  refine run_cond_dec rfl (fun g59 => ?_) (fun g59 => ?_)
  · skip
    refine run_seq ?_
    refine run_region ?_
    refine RunL.cons (Op1.move (v := .int .u16 _) rfl ?_)
    refine RunL.cons (Op1.call8 (v1 := .int .u16 _) (v2 := str _) (v3 := .bool _) (v4 := .bool _) (v5 := str _) (v6 := str _) (v7 := .int .i64 _) (v8 := .int .u8 _) ent33 rfl rfl rfl rfl rfl rfl rfl rfl rfl ((R2ref_form _ _ _ _ _ _ _ _ _).mono fun v w hp => ?_))
    obtain ⟨rfl, hp⟩ := hp
    replace hst := hst.keepc hp
    clear hp
    refine RunL.cons (Op1.store (v := .agg #[.int .u16 _, str _, .bool _, .bool _, str _, str _, .int .i64 _, .int .u8 _]) hst ty38 rfl rfl rfl rfl rfl (.here) (by repeat (first | exact Put.nil | apply Put.put | apply Put.skip)) fun w hst => ?_)
    refine RunL.cons (Op1.assign (v := .bool _) rfl ?_)
    refine RunL.nil ?_
    refine run_ret2 Try.func18 rfl (RV.cellA (vs := [.int .u16 _, str _, .bool _, .bool _, str _, str _, .int .i64 _, .int .u8 _]) rfl ty38 rfl rfl (cells_of_obj (n := 8) (hst.objL (.head _)) _ rfl)) (RV.tmp (v := .bool _) rfl) ?_
    subst g59
    have e : refS 168 = some ⟨168, [79, 112, 76, 111, 103, 105, 99, 97, 108, 78, 111, 116], true, true, [105], [], 0, 8⟩ := by decide +kernel
    rw [e]
    exact ⟨rfl, hst.pure⟩
  refine run_seq ?_
  refine run_region ?_
  refine RunL.cons (Op1.eql rfl rfl ?_)
  refine RunL.cons (Op1.assign (v := .bool _) rfl ?_)
  refine RunL.nil ?_
  refine run_cond_dec rfl (fun g60 => ?_) (fun g60 => ?_)
  · skip
    refine run_seq ?_
    refine run_region ?_
    refine RunL.cons (Op1.move (v := .int .u16 _) rfl ?_)
    refine RunL.cons (Op1.call8 (v1 := .int .u16 _) (v2 := str _) (v3 := .bool _) (v4 := .bool _) (v5 := str _) (v6 := str _) (v7 := .int .i64 _) (v8 := .int .u8 _) ent33 rfl rfl rfl rfl rfl rfl rfl rfl rfl ((R2ref_form _ _ _ _ _ _ _ _ _).mono fun v w hp => ?_))
    obtain ⟨rfl, hp⟩ := hp
    replace hst := hst.keepc hp
    clear hp
    refine RunL.cons (Op1.store (v := .agg #[.int .u16 _, str _, .bool _, .bool _, str _, str _, .int .i64 _, .int .u8 _]) hst ty38 rfl rfl rfl rfl rfl (.here) (by repeat (first | exact Put.nil | apply Put.put | apply Put.skip)) fun w hst => ?_)
    refine RunL.cons (Op1.assign (v := .bool _) rfl ?_)
    refine RunL.nil ?_
    refine run_ret2 Try.func18 rfl (RV.cellA (vs := [.int .u16 _, str _, .bool _, .bool _, str _, str _, .int .i64 _, .int .u8 _]) rfl ty38 rfl rfl (cells_of_obj (n := 8) (hst.objL (.head _)) _ rfl)) (RV.tmp (v := .bool _) rfl) ?_
    subst g60
    have e : refS 169 = some ⟨169, [79, 112, 83, 101, 108, 101, 99, 116], true, true, [105, 105, 105], [], 0, 8⟩ := by decide +kernel
    rw [e]
    exact ⟨rfl, hst.pure⟩
  refine run_seq ?_
  refine run_region ?_
  refine RunL.cons (Op1.eql rfl rfl ?_)
  refine RunL.cons (Op1.assign (v := .bool _) rfl ?_)
  refine RunL.nil ?_
  refine run_cond_dec rfl (fun g61 => ?_) (fun g61 => ?_)
  · skip
    refine run_seq ?_
    refine run_region ?_
    refine RunL.cons (Op1.move (v := .int .u16 _) rfl ?_)
    refine RunL.cons (Op1.call8 (v1 := .int .u16 _) (v2 := str _) (v3 := .bool _) (v4 := .bool _) (v5 := str _) (v6 := str _) (v7 := .int .i64 _) (v8 := .int .u8 _) ent33 rfl rfl rfl rfl rfl rfl rfl rfl rfl ((R2ref_form _ _ _ _ _ _ _ _ _).mono fun v w hp => ?_))
    obtain ⟨rfl, hp⟩ := hp
    replace hst := hst.keepc hp
    clear hp
    refine RunL.cons (Op1.store (v := .agg #[.int .u16 _, str _, .bool _, .bool _, str _, str _, .int .i64 _, .int .u8 _]) hst ty38 rfl rfl rfl rfl rfl (.here) (by repeat (first | exact Put.nil | apply Put.put | apply Put.skip)) fun w hst => ?_)
    refine RunL.cons (Op1.assign (v := .bool _) rfl ?_)
    refine RunL.nil ?_
    refine run_ret2 Try.func18 rfl (RV.cellA (vs := [.int .u16 _, str _, .bool _, .bool _, str _, str _, .int .i64 _, .int .u8 _]) rfl ty38 rfl rfl (cells_of_obj (n := 8) (hst.objL (.head _)) _ rfl)) (RV.tmp (v := .bool _) rfl) ?_
    subst g61
    have e : refS 170 = some ⟨170, [79, 112, 73, 69, 113, 117, 97, 108], true, true, [105, 105], [], 0, 8⟩ := by decide +kernel
    rw [e]
    exact ⟨rfl, hst.pure⟩
  refine run_seq ?_
  refine run_region ?_
  refine RunL.cons (Op1.eql rfl rfl ?_)
  refine RunL.cons (Op1.assign (v := .bool _) rfl ?_)
  refine RunL.nil ?_
  refine run_cond_dec rfl (fun g62 => ?_) (fun g62 => ?_)
  · skip
    refine run_seq ?_
    refine run_region ?_
    refine RunL.cons (Op1.move (v := .int .u16 _) rfl ?_)
    refine RunL.cons (Op1.call8 (v1 := .int .u16 _) (v2 := str _) (v3 := .bool _) (v4 := .bool _) (v5 := str _) (v6 := str _) (v7 := .int .i64 _) (v8 := .int .u8 _) ent33 rfl rfl rfl rfl rfl rfl rfl rfl rfl ((R2ref_form _ _ _ _ _ _ _ _ _).mono fun v w hp => ?_))
    obtain ⟨rfl, hp⟩ := hp
    replace hst := hst.keepc hp
    clear hp
    refine RunL.cons (Op1.store (v := .agg #[.int .u16 _, str _, .bool _, .bool _, str _, str _, .int .i64 _, .int .u8 _]) hst ty38 rfl rfl rfl rfl rfl (.here) (by repeat (first | exact Put.nil | apply Put.put | apply Put.skip)) fun w hst => ?_)
    refine RunL.cons (Op1.assign (v := .bool _) rfl ?_)
    refine RunL.nil ?_
    refine run_ret2 Try.func18 rfl (RV.cellA (vs := [.int .u16 _, str _, .bool _, .bool _, str _, str _, .int .i64 _, .int .u8 _]) rfl ty38 rfl rfl (cells_of_obj (n := 8) (hst.objL (.head _)) _ rfl)) (RV.tmp (v := .bool _) rfl) ?_
    subst g62
    have e : refS 171 = some ⟨171, [79, 112, 73, 78, 111, 116, 69, 113, 117, 97, 108], true, true, [105, 105], [], 0, 8⟩ := by decide +kernel
    rw [e]
    exact ⟨rfl, hst.pure⟩
  refine run_seq ?_
  refine run_region ?_
  refine RunL.cons (Op1.eql rfl rfl ?_)
  refine RunL.cons (Op1.assign (v := .bool _) rfl ?_)
  refine RunL.nil ?_
  refine run_cond_dec rfl (fun g63 => ?_) (fun g63 => ?_)
  · skip
    refine run_seq ?_
    refine run_region ?_
    refine RunL.cons (Op1.move (v := .int .u16 _) rfl ?_)
    refine RunL.cons (Op1.call8 (v1 := .int .u16 _) (v2 := str _) (v3 := .bool _) (v4 := .bool _) (v5 := str _) (v6 := str _) (v7 := .int .i64 _) (v8 := .int .u8 _) ent33 rfl rfl rfl rfl rfl rfl rfl rfl rfl ((R2ref_form _ _ _ _ _ _ _ _ _).mono fun v w hp => ?_))
    obtain ⟨rfl, hp⟩ := hp
    replace hst := hst.keepc hp
    clear hp
    refine RunL.cons (Op1.store (v := .agg #[.int .u16 _, str _, .bool _, .bool _, str _, str _, .int .i64 _, .int .u8 _]) hst ty38 rfl rfl rfl rfl rfl (.here) (by repeat (first | exact Put.nil | apply Put.put | apply Put.skip)) fun w hst => ?_)
    refine RunL.cons (Op1.assign (v := .bool _) rfl ?_)
    refine RunL.nil ?_
    refine run_ret2 Try.func18 rfl (RV.cellA (vs := [.int .u16 _, str _, .bool _, .bool _, str _, str _, .int .i64 _, .int .u8 _]) rfl ty38 rfl rfl (cells_of_obj (n := 8) (hst.objL (.head _)) _ rfl)) (RV.tmp (v := .bool _) rfl) ?_
    subst g63
    have e : refS 172 = some ⟨172, [79, 112, 85, 71, 114, 101, 97, 116, 101, 114, 84, 104, 97, 110], true, true, [105, 105], [], 0, 8⟩ := by decide +kernel
    rw [e]
    exact ⟨rfl, hst.pure⟩
  refine run_seq ?_
  refine run_region ?_
  refine RunL.cons (Op1.eql rfl rfl ?_)
  refine RunL.cons (Op1.assign (v := .bool _) rfl ?_)
  refine RunL.nil ?_
  refine run_cond_dec rfl (fun g64 => ?_) (fun g64 => ?_)
  · skip
    refine run_seq ?_
    refine run_region ?_
    refine RunL.cons (Op1.move (v := .int .u16 _) rfl ?_)
    refine RunL.cons (Op1.call8 (v1 := .int .u16 _) (v2 := str _) (v3 := .bool _) (v4 := .bool _) (v5 := str _) (v6 := str _) (v7 := .int .i64 _) (v8 := .int .u8 _) ent33 rfl rfl rfl rfl rfl rfl rfl rfl rfl ((R2ref_form _ _ _ _ _ _ _ _ _).mono fun v w hp => ?_))
    obtain ⟨rfl, hp⟩ := hp
    replace hst := hst.keepc hp
    clear hp
    refine RunL.cons (Op1.store (v := .agg #[.int .u16 _, str _, .bool _, .bool _, str _, str _, .int .i64 _, .int .u8 _]) hst ty38 rfl rfl rfl rfl rfl (.here) (by repeat (first | exact Put.nil | apply Put.put | apply Put.skip)) fun w hst => ?_)
    refine RunL.cons (Op1.assign (v := .bool _) rfl ?_)
    refine RunL.nil ?_
    refine run_ret2 Try.func18 rfl (RV.cellA (vs := [.int .u16 _, str _, .bool _, .bool _, str _, str _, .int .i64 _, .int .u8 _]) rfl ty38 rfl rfl (cells_of_obj (n := 8) (hst.objL (.head _)) _ rfl)) (RV.tmp (v := .bool _) rfl) ?_
    subst g64
    have e : refS 173 = some ⟨173, [79, 112, 83, 71, 114, 101, 97, 116, 101, 114, 84, 104, 97, 110], true, true, [105, 105], [], 0, 8⟩ := by decide +kernel
    rw [e]
    exact ⟨rfl, hst.pure⟩
  refine run_seq ?_
  refine run_region ?_
  refine RunL.cons (Op1.eql rfl rfl ?_)
  refine RunL.cons (Op1.assign (v := .bool _) rfl ?_)
  refine RunL.nil ?_
  refine run_cond_dec rfl (fun g65 => ?_) (fun g65 => ?_)
  · skip
    refine run_seq ?_
    refine run_region ?_
    refine RunL.cons (Op1.move (v := .int .u16 _) rfl ?_)
    refine RunL.cons (Op1.call8 (v1 := .int .u16 _) (v2 := str _) (v3 := .bool _) (v4 := .bool _) (v5 := str _) (v6 := str _) (v7 := .int .i64 _) (v8 := .int .u8 _) ent33 rfl rfl rfl rfl rfl rfl rfl rfl rfl ((R2ref_form _ _ _ _ _ _ _ _ _).mono fun v w hp => ?_))
    obtain ⟨rfl, hp⟩ := hp
    replace hst := hst.keepc hp
    clear hp
    refine RunL.cons (Op1.store (v := .agg #[.int .u16 _, str _, .bool _, .bool _, str _, str _, .int .i64 _, .int .u8 _]) hst ty38 rfl rfl rfl rfl rfl (.here) (by repeat (first | exact Put.nil | apply Put.put | apply Put.skip)) fun w hst => ?_)
    refine RunL.cons (Op1.assign (v := .bool _) rfl ?_)
    refine RunL.nil ?_
    refine run_ret2 Try.func18 rfl (RV.cellA (vs := [.int .u16 _, str _, .bool _, .bool _, str _, str _, .int .i64 _, .int .u8 _]) rfl ty38 rfl rfl (cells_of_obj (n := 8) (hst.objL (.head _)) _ rfl)) (RV.tmp (v := .bool _) rfl) ?_
    subst g65
    have e : refS 174 = some ⟨174, [79, 112, 85, 71, 114, 101, 97, 116, 101, 114, 84, 104, 97, 110, 69, 113, 117, 97, 108], true, true, [105, 105], [], 0, 8⟩ := by decide +kernel
    rw [e]
    exact ⟨rfl, hst.pure⟩
  refine run_seq ?_
  refine run_region ?_
  refine RunL.cons (Op1.eql rfl rfl ?_)
  refine RunL.cons (Op1.assign (v := .bool _) rfl ?_)
  refine RunL.nil ?_
  refine run_cond_dec rfl (fun g66 => ?_) (fun g66 => ?_)
  · skip
    refine run_seq ?_
    refine run_region ?_
    refine RunL.cons (Op1.move (v := .int .u16 _) rfl ?_)
    refine RunL.cons (Op1.call8 (v1 := .int .u16 _) (v2 := str _) (v3 := .bool _) (v4 := .bool _) (v5 := str _) (v6 := str _) (v7 := .int .i64 _) (v8 := .int .u8 _) ent33 rfl rfl rfl rfl rfl rfl rfl rfl rfl ((R2ref_form _ _ _ _ _ _ _ _ _).mono fun v w hp => ?_))
    obtain ⟨rfl, hp⟩ := hp
    replace hst := hst.keepc hp
    clear hp
    refine RunL.cons (Op1.store (v := .agg #[.int .u16 _, str _, .bool _, .bool _, str _, str _, .int .i64 _, .int .u8 _]) hst ty38 rfl rfl rfl rfl rfl (.here) (by repeat (first | exact Put.nil | apply Put.put | apply Put.skip)) fun w hst => ?_)
    refine RunL.cons (Op1.assign (v := .bool _) rfl ?_)
    refine RunL.nil ?_
    refine run_ret2 Try.func18 rfl (RV.cellA (vs := [.int .u16 _, str _, .bool _, .bool _, str _, str _, .int .i64 _, .int .u8 _]) rfl ty38 rfl rfl (cells_of_obj (n := 8) (hst.objL (.head _)) _ rfl)) (RV.tmp (v := .bool _) rfl) ?_
    subst g66
    have e : refS 175 = some ⟨175, [79, 112, 83, 71, 114, 101, 97, 116, 101, 114, 84, 104, 97, 110, 69, 113, 117, 97, 108], true, true, [105, 105], [], 0, 8⟩ := by decide +kernel
    rw [e]
    exact ⟨rfl, hst.pure⟩
  refine run_seq ?_
  refine run_region ?_
  refine RunL.cons (Op1.eql rfl rfl ?_)
  refine RunL.cons (Op1.assign (v := .bool _) rfl ?_)
  refine RunL.nil ?_
  refine run_cond_dec rfl (fun g67 => ?_) (fun g67 => ?_)
  · skip
    refine run_seq ?_
    refine run_region ?_
    refine RunL.cons (Op1.move (v := .int .u16 _) rfl ?_)
    refine RunL.cons (Op1.call8 (v1 := .int .u16 _) (v2 := str _) (v3 := .bool _) (v4 := .bool _) (v5 := str _) (v6 := str _) (v7 := .int .i64 _) (v8 := .int .u8 _) ent33 rfl rfl rfl rfl rfl rfl rfl rfl rfl ((R2ref_form _ _ _ _ _ _ _ _ _).mono fun v w hp => ?_))
    obtain ⟨rfl, hp⟩ := hp
    replace hst := hst.keepc hp
    clear hp
    refine RunL.cons (Op1.store (v := .agg #[.int .u16 _, str _, .bool _, .bool _, str _, str _, .int .i64 _, .int .u8 _]) hst ty38 rfl rfl rfl rfl rfl (.here) (by repeat (first | exact Put.nil | apply Put.put | apply Put.skip)) fun w hst => ?_)
    refine RunL.cons (Op1.assign (v := .bool _) rfl ?_)
    refine RunL.nil ?_
    refine run_ret2 Try.func18 rfl (RV.cellA (vs := [.int .u16 _, str _, .bool _, .bool _, str _, str _, .int .i64 _, .int .u8 _]) rfl ty38 rfl rfl (cells_of_obj (n := 8) (hst.objL (.head _)) _ rfl)) (RV.tmp (v := .bool _) rfl) ?_
    subst g67
    have e : refS 176 = some ⟨176, [79, 112, 85, 76, 101, 115, 115, 84, 104, 97, 110], true, true, [105, 105], [], 0, 8⟩ := by decide +kernel
    rw [e]
    exact ⟨rfl, hst.pure⟩
  refine run_seq ?_
  refine run_region ?_
  refine RunL.cons (Op1.eql rfl rfl ?_)
  refine RunL.cons (Op1.assign (v := .bool _) rfl ?_)
  refine RunL.nil ?_
  refine Run.forget [(0, .int .u16 _), (2, .pointer (some ⟨_, _, none⟩)), (4, .int .u16 _), (273, .bool _)] ⟨rfl, rfl, rfl, rfl, trivial⟩ (fun f => ?_)
  refine run_cond_dec rfl (fun g68 => ?_) (fun g68 => ?_)
  · skip
    refine run_seq ?_
    refine run_region ?_
    refine RunL.cons (Op1.move (v := .int .u16 _) rfl ?_)
    refine RunL.cons (Op1.call8 (v1 := .int .u16 _) (v2 := str _) (v3 := .bool _) (v4 := .bool _) (v5 := str _) (v6 := str _) (v7 := .int .i64 _) (v8 := .int .u8 _) ent33 rfl rfl rfl rfl rfl rfl rfl rfl rfl ((R2ref_form _ _ _ _ _ _ _ _ _).mono fun v w hp => ?_))
    obtain ⟨rfl, hp⟩ := hp
    replace hst := hst.keepc hp
    clear hp
    refine RunL.cons (Op1.store (v := .agg #[.int .u16 _, str _, .bool _, .bool _, str _, str _, .int .i64 _, .int .u8 _]) hst ty38 rfl rfl rfl rfl rfl (.here) (by repeat (first | exact Put.nil | apply Put.put | apply Put.skip)) fun w hst => ?_)
    refine RunL.cons (Op1.assign (v := .bool _) rfl ?_)
    refine RunL.nil ?_
    refine run_ret2 Try.func18 rfl (RV.cellA (vs := [.int .u16 _, str _, .bool _, .bool _, str _, str _, .int .i64 _, .int .u8 _]) rfl ty38 rfl rfl (cells_of_obj (n := 8) (hst.objL (.head _)) _ rfl)) (RV.tmp (v := .bool _) rfl) ?_
    subst g68
    have e : refS 177 = some ⟨177, [79, 112, 83, 76, 101, 115, 115, 84, 104, 97, 110], true, true, [105, 105], [], 0, 8⟩ := by decide +kernel
    rw [e]
    exact ⟨rfl, hst.pure⟩
  refine run_seq ?_
  refine run_region ?_
  refine RunL.cons (Op1.eql rfl rfl ?_)
  refine RunL.cons (Op1.assign (v := .bool _) rfl ?_)
  refine RunL.nil ?_
  refine run_cond_dec rfl (fun g69 => ?_) (fun g69 => ?_)
  · skip
    refine run_seq ?_
    refine run_region ?_
    refine RunL.cons (Op1.move (v := .int .u16 _) rfl ?_)
    refine RunL.cons (Op1.call8 (v1 := .int .u16 _) (v2 := str _) (v3 := .bool _) (v4 := .bool _) (v5 := str _) (v6 := str _) (v7 := .int .i64 _) (v8 := .int .u8 _) ent33 rfl rfl rfl rfl rfl rfl rfl rfl rfl ((R2ref_form _ _ _ _ _ _ _ _ _).mono fun v w hp => ?_))
    obtain ⟨rfl, hp⟩ := hp
    replace hst := hst.keepc hp
    clear hp
    refine RunL.cons (Op1.store (v := .agg #[.int .u16 _, str _, .bool _, .bool _, str _, str _, .int .i64 _, .int .u8 _]) hst ty38 rfl rfl rfl rfl rfl (.here) (by repeat (first | exact Put.nil | apply Put.put | apply Put.skip)) fun w hst => ?_)
    refine RunL.cons (Op1.assign (v := .bool _) rfl ?_)
    refine RunL.nil ?_
    refine run_ret2 Try.func18 rfl (RV.cellA (vs := [.int .u16 _, str _, .bool _, .bool _, str _, str _, .int .i64 _, .int .u8 _]) rfl ty38 rfl rfl (cells_of_obj (n := 8) (hst.objL (.head _)) _ rfl)) (RV.tmp (v := .bool _) rfl) ?_
    subst g69
    have e : refS 178 = some ⟨178, [79, 112, 85, 76, 101, 115, 115, 84, 104, 97, 110, 69, 113, 117, 97, 108], true, true, [105, 105], [], 0, 8⟩ := by decide +kernel
    rw [e]
    exact ⟨rfl, hst.pure⟩
  refine run_seq ?_
  refine run_region ?_
  refine RunL.cons (Op1.eql rfl rfl ?_)
  refine RunL.cons (Op1.assign (v := .bool _) rfl ?_)
  refine RunL.nil ?_
  refine run_cond_dec rfl (fun g70 => ?_) (fun g70 => ?_)
  · skip
    refine run_seq ?_
    refine run_region ?_
    refine RunL.cons (Op1.move (v := .int .u16 _) rfl ?_)
    refine RunL.cons (Op1.call8 (v1 := .int .u16 _) (v2 := str _) (v3 := .bool _) (v4 := .bool _) (v5 := str _) (v6 := str _) (v7 := .int .i64 _) (v8 := .int .u8 _) ent33 rfl rfl rfl rfl rfl rfl rfl rfl rfl ((R2ref_form _ _ _ _ _ _ _ _ _).mono fun v w hp => ?_))
    obtain ⟨rfl, hp⟩ := hp
    replace hst := hst.keepc hp
    clear hp
    refine RunL.cons (Op1.store (v := .agg #[.int .u16 _, str _, .bool _, .bool _, str _, str _, .int .i64 _, .int .u8 _]) hst ty38 rfl rfl rfl rfl rfl (.here) (by repeat (first | exact Put.nil | apply Put.put | apply Put.skip)) fun w hst => ?_)
    refine RunL.cons (Op1.assign (v := .bool _) rfl ?_)
    refine RunL.nil ?_
    refine run_ret2 Try.func18 rfl (RV.cellA (vs := [.int .u16 _, str _, .bool _, .bool _, str _, str _, .int .i64 _, .int .u8 _]) rfl ty38 rfl rfl (cells_of_obj (n := 8) (hst.objL (.head _)) _ rfl)) (RV.tmp (v := .bool _) rfl) ?_
    subst g70
    have e : refS 179 = some ⟨179, [79, 112, 83, 76, 101, 115, 115, 84, 104, 97, 110, 69, 113, 117, 97, 108], true, true, [105, 105], [], 0, 8⟩ := by decide +kernel
    rw [e]
    exact ⟨rfl, hst.pure⟩
  refine run_seq ?_
  refine run_region ?_
  refine RunL.cons (Op1.eql rfl rfl ?_)
  refine RunL.cons (Op1.assign (v := .bool _) rfl ?_)
  refine RunL.nil ?_
  refine run_cond_dec rfl (fun g71 => ?_) (fun g71 => ?_)
  · skip
    refine run_seq ?_
    refine run_region ?_
    refine RunL.cons (Op1.move (v := .int .u16 _) rfl ?_)
    refine RunL.cons (Op1.call8 (v1 := .int .u16 _) (v2 := str _) (v3 := .bool _) (v4 := .bool _) (v5 := str _) (v6 := str _) (v7 := .int .i64 _) (v8 := .int .u8 _) ent33 rfl rfl rfl rfl rfl rfl rfl rfl rfl ((R2ref_form _ _ _ _ _ _ _ _ _).mono fun v w hp => ?_))
    obtain ⟨rfl, hp⟩ := hp
    replace hst := hst.keepc hp
    clear hp
    refine RunL.cons (Op1.store (v := .agg #[.int .u16 _, str _, .bool _, .bool _, str _, str _, .int .i64 _, .int .u8 _]) hst ty38 rfl rfl rfl rfl rfl (.here) (by repeat (first | exact Put.nil | apply Put.put | apply Put.skip)) fun w hst => ?_)
    refine RunL.cons (Op1.assign (v := .bool _) rfl ?_)
    refine RunL.nil ?_
    refine run_ret2 Try.func18 rfl (RV.cellA (vs := [.int .u16 _, str _, .bool _, .bool _, str _, str _, .int .i64 _, .int .u8 _]) rfl ty38 rfl rfl (cells_of_obj (n := 8) (hst.objL (.head _)) _ rfl)) (RV.tmp (v := .bool _) rfl) ?_
    subst g71
    have e : refS 194 = some ⟨194, [79, 112, 83, 104, 105, 102, 116, 82, 105, 103, 104, 116, 76, 111, 103, 105, 99, 97, 108], true, true, [105, 105], [], 0, 8⟩ := by decide +kernel
    rw [e]
    exact ⟨rfl, hst.pure⟩
  refine run_seq ?_
  refine run_region ?_
  refine RunL.cons (Op1.eql rfl rfl ?_)
  refine RunL.cons (Op1.assign (v := .bool _) rfl ?_)
  refine RunL.nil ?_
  refine run_cond_dec rfl (fun g72 => ?_) (fun g72 => ?_)
  · skip
    refine run_seq ?_
    refine run_region ?_
    refine RunL.cons (Op1.move (v := .int .u16 _) rfl ?_)
    refine RunL.cons (Op1.call8 (v1 := .int .u16 _) (v2 := str _) (v3 := .bool _) (v4 := .bool _) (v5 := str _) (v6 := str _) (v7 := .int .i64 _) (v8 := .int .u8 _) ent33 rfl rfl rfl rfl rfl rfl rfl rfl rfl ((R2ref_form _ _ _ _ _ _ _ _ _).mono fun v w hp => ?_))
    obtain ⟨rfl, hp⟩ := hp
    replace hst := hst.keepc hp
    clear hp
    refine RunL.cons (Op1.store (v := .agg #[.int .u16 _, str _, .bool _, .bool _, str _, str _, .int .i64 _, .int .u8 _]) hst ty38 rfl rfl rfl rfl rfl (.here) (by repeat (first | exact Put.nil | apply Put.put | apply Put.skip)) fun w hst => ?_)
    refine RunL.cons (Op1.assign (v := .bool _) rfl ?_)
    refine RunL.nil ?_
    refine run_ret2 Try.func18 rfl (RV.cellA (vs := [.int .u16 _, str _, .bool _, .bool _, str _, str _, .int .i64 _, .int .u8 _]) rfl ty38 rfl rfl (cells_of_obj (n := 8) (hst.objL (.head _)) _ rfl)) (RV.tmp (v := .bool _) rfl) ?_
    subst g72
    have e : refS 195 = some ⟨195, [79, 112, 83, 104, 105, 102, 116, 82, 105, 103, 104, 116, 65, 114, 105, 116, 104, 109, 101, 116, 105, 99], true, true, [105, 105], [], 0, 8⟩ := by decide +kernel
    rw [e]
    exact ⟨rfl, hst.pure⟩
  refine run_seq ?_
  refine run_region ?_
  refine RunL.cons (Op1.eql rfl rfl ?_)
  refine RunL.cons (Op1.assign (v := .bool _) rfl ?_)
  refine RunL.nil ?_
  refine run_cond_dec rfl (fun g73 => ?_) (fun g73 => ?_)
  · skip
    refine run_seq ?_
    refine run_region ?_
    refine RunL.cons (Op1.move (v := .int .u16 _) rfl ?_)
    refine RunL.cons (Op1.call8 (v1 := .int .u16 _) (v2 := str _) (v3 := .bool _) (v4 := .bool _) (v5 := str _) (v6 := str _) (v7 := .int .i64 _) (v8 := .int .u8 _) ent33 rfl rfl rfl rfl rfl rfl rfl rfl rfl ((R2ref_form _ _ _ _ _ _ _ _ _).mono fun v w hp => ?_))
    obtain ⟨rfl, hp⟩ := hp
    replace hst := hst.keepc hp
    clear hp
    refine RunL.cons (Op1.store (v := .agg #[.int .u16 _, str _, .bool _, .bool _, str _, str _, .int .i64 _, .int .u8 _]) hst ty38 rfl rfl rfl rfl rfl (.here) (by repeat (first | exact Put.nil | apply Put.put | apply Put.skip)) fun w hst => ?_)
    refine RunL.cons (Op1.assign (v := .bool _) rfl ?_)
    refine RunL.nil ?_
    refine run_ret2 Try.func18 rfl (RV.cellA (vs := [.int .u16 _, str _, .bool _, .bool _, str _, str _, .int .i64 _, .int .u8 _]) rfl ty38 rfl rfl (cells_of_obj (n := 8) (hst.objL (.head _)) _ rfl)) (RV.tmp (v := .bool _) rfl) ?_
    subst g73
    have e : refS 196 = some ⟨196, [79, 112, 83, 104, 105, 102, 116, 76, 101, 102, 116, 76, 111, 103, 105, 99, 97, 108], true, true, [105, 105], [], 0, 8⟩ := by decide +kernel
    rw [e]
    exact ⟨rfl, hst.pure⟩
  refine run_seq ?_
  refine run_region ?_
  refine RunL.cons (Op1.eql rfl rfl ?_)
  refine RunL.cons (Op1.assign (v := .bool _) rfl ?_)
  refine RunL.nil ?_
  refine run_cond_dec rfl (fun g74 => ?_) (fun g74 => ?_)
  · skip
    refine run_seq ?_
    refine run_region ?_
    refine RunL.cons (Op1.move (v := .int .u16 _) rfl ?_)
    refine RunL.cons (Op1.call8 (v1 := .int .u16 _) (v2 := str _) (v3 := .bool _) (v4 := .bool _) (v5 := str _) (v6 := str _) (v7 := .int .i64 _) (v8 := .int .u8 _) ent33 rfl rfl rfl rfl rfl rfl rfl rfl rfl ((R2ref_form _ _ _ _ _ _ _ _ _).mono fun v w hp => ?_))
    obtain ⟨rfl, hp⟩ := hp
    replace hst := hst.keepc hp
    clear hp
    refine RunL.cons (Op1.store (v := .agg #[.int .u16 _, str _, .bool _, .bool _, str _, str _, .int .i64 _, .int .u8 _]) hst ty38 rfl rfl rfl rfl rfl (.here) (by repeat (first | exact Put.nil | apply Put.put | apply Put.skip)) fun w hst => ?_)
    refine RunL.cons (Op1.assign (v := .bool _) rfl ?_)
    refine RunL.nil ?_
    refine run_ret2 Try.func18 rfl (RV.cellA (vs := [.int .u16 _, str _, .bool _, .bool _, str _, str _, .int .i64 _, .int .u8 _]) rfl ty38 rfl rfl (cells_of_obj (n := 8) (hst.objL (.head _)) _ rfl)) (RV.tmp (v := .bool _) rfl) ?_
    subst g74
    have e : refS 197 = some ⟨197, [79, 112, 66, 105, 116, 119, 105, 115, 101, 79, 114], true, true, [105, 105], [], 0, 8⟩ := by decide +kernel
    rw [e]
    exact ⟨rfl, hst.pure⟩
  refine run_seq ?_
  refine run_region ?_
  refine RunL.cons (Op1.eql rfl rfl ?_)
  refine RunL.cons (Op1.assign (v := .bool _) rfl ?_)
  refine RunL.nil ?_
  refine run_cond_dec rfl (fun g75 => ?_) (fun g75 => ?_)
  · skip
    refine run_seq ?_
    refine run_region ?_
    refine RunL.cons (Op1.move (v := .int .u16 _) rfl ?_)
    refine RunL.cons (Op1.call8 (v1 := .int .u16 _) (v2 := str _) (v3 := .bool _) (v4 := .bool _) (v5 := str _) (v6 := str _) (v7 := .int .i64 _) (v8 := .int .u8 _) ent33 rfl rfl rfl rfl rfl rfl rfl rfl rfl ((R2ref_form _ _ _ _ _ _ _ _ _).mono fun v w hp => ?_))
    obtain ⟨rfl, hp⟩ := hp
    replace hst := hst.keepc hp
    clear hp
    refine RunL.cons (Op1.store (v := .agg #[.int .u16 _, str _, .bool _, .bool _, str _, str _, .int .i64 _, .int .u8 _]) hst ty38 rfl rfl rfl rfl rfl (.here) (by repeat (first | exact Put.nil | apply Put.put | apply Put.skip)) fun w hst => ?_)
    refine RunL.cons (Op1.assign (v := .bool _) rfl ?_)
    refine RunL.nil ?_
    refine run_ret2 Try.func18 rfl (RV.cellA (vs := [.int .u16 _, str _, .bool _, .bool _, str _, str _, .int .i64 _, .int .u8 _]) rfl ty38 rfl rfl (cells_of_obj (n := 8) (hst.objL (.head _)) _ rfl)) (RV.tmp (v := .bool _) rfl) ?_
    subst g75
    have e : refS 198 = some ⟨198, [79, 112, 66, 105, 116, 119, 105, 115, 101, 88, 111, 114], true, true, [105, 105], [], 0, 8⟩ := by decide +kernel
    rw [e]
    exact ⟨rfl, hst.pure⟩
  refine run_seq ?_
  refine run_region ?_
  refine RunL.cons (Op1.eql rfl rfl ?_)
  refine RunL.cons (Op1.assign (v := .bool _) rfl ?_)
  refine RunL.nil ?_
  refine run_cond_dec rfl (fun g76 => ?_) (fun g76 => ?_)
  · skip
    refine run_seq ?_
    refine run_region ?_
    refine RunL.cons (Op1.move (v := .int .u16 _) rfl ?_)
    refine RunL.cons (Op1.call8 (v1 := .int .u16 _) (v2 := str _) (v3 := .bool _) (v4 := .bool _) (v5 := str _) (v6 := str _) (v7 := .int .i64 _) (v8 := .int .u8 _) ent33 rfl rfl rfl rfl rfl rfl rfl rfl rfl ((R2ref_form _ _ _ _ _ _ _ _ _).mono fun v w hp => ?_))
    obtain ⟨rfl, hp⟩ := hp
    replace hst := hst.keepc hp
    clear hp
    refine RunL.cons (Op1.store (v := .agg #[.int .u16 _, str _, .bool _, .bool _, str _, str _, .int .i64 _, .int .u8 _]) hst ty38 rfl rfl rfl rfl rfl (.here) (by repeat (first | exact Put.nil | apply Put.put | apply Put.skip)) fun w hst => ?_)
    refine RunL.cons (Op1.assign (v := .bool _) rfl ?_)
    refine RunL.nil ?_
    refine run_ret2 Try.func18 rfl (RV.cellA (vs := [.int .u16 _, str _, .bool _, .bool _, str _, str _, .int .i64 _, .int .u8 _]) rfl ty38 rfl rfl (cells_of_obj (n := 8) (hst.objL (.head _)) _ rfl)) (RV.tmp (v := .bool _) rfl) ?_
    subst g76
    have e : refS 199 = some ⟨199, [79, 112, 66, 105, 116, 119, 105, 115, 101, 65, 110, 100], true, true, [105, 105], [], 0, 8⟩ := by decide +kernel
    rw [e]
    exact ⟨rfl, hst.pure⟩
  refine run_seq ?_
  refine run_region ?_
  refine RunL.cons (Op1.eql rfl rfl ?_)
  refine RunL.cons (Op1.assign (v := .bool _) rfl ?_)
  refine RunL.nil ?_
  refine run_cond_dec rfl (fun g77 => ?_) (fun g77 => ?_)
  · skip
    refine run_seq ?_
    refine run_region ?_
    refine RunL.cons (Op1.move (v := .int .u16 _) rfl ?_)
    refine RunL.cons (Op1.call8 (v1 := .int .u16 _) (v2 := str _) (v3 := .bool _) (v4 := .bool _) (v5 := str _) (v6 := str _) (v7 := .int .i64 _) (v8 := .int .u8 _) ent33 rfl rfl rfl rfl rfl rfl rfl rfl rfl ((R2ref_form _ _ _ _ _ _ _ _ _).mono fun v w hp => ?_))
    obtain ⟨rfl, hp⟩ := hp
    replace hst := hst.keepc hp
    clear hp
    refine RunL.cons (Op1.store (v := .agg #[.int .u16 _, str _, .bool _, .bool _, str _, str _, .int .i64 _, .int .u8 _]) hst ty38 rfl rfl rfl rfl rfl (.here) (by repeat (first | exact Put.nil | apply Put.put | apply Put.skip)) fun w hst => ?_)
    refine RunL.cons (Op1.assign (v := .bool _) rfl ?_)
    refine RunL.nil ?_
    refine run_ret2 Try.func18 rfl (RV.cellA (vs := [.int .u16 _, str _, .bool _, .bool _, str _, str _, .int .i64 _, .int .u8 _]) rfl ty38 rfl rfl (cells_of_obj (n := 8) (hst.objL (.head _)) _ rfl)) (RV.tmp (v := .bool _) rfl) ?_
    subst g77
    have e : refS 200 = some ⟨200, [79, 112, 78, 111, 116], true, true, [105], [], 0, 8⟩ := by decide +kernel
    rw [e]
    exact ⟨rfl, hst.pure⟩
  refine run_seq ?_
  refine run_region ?_
  refine RunL.cons (Op1.eql rfl rfl ?_)
  refine RunL.cons (Op1.assign (v := .bool _) rfl ?_)
  refine RunL.nil ?_
  refine Run.forget [(0, .int .u16 _), (2, .pointer (some ⟨_, _, none⟩)), (4, .int .u16 _), (313, .bool _)] ⟨rfl, rfl, rfl, rfl, trivial⟩ (fun f => ?_)
  refine run_cond_dec rfl (fun g78 => ?_) (fun g78 => ?_)
  · skip
    refine run_seq ?_
    refine run_region ?_
    refine RunL.cons (Op1.move (v := .int .u16 _) rfl ?_)
    refine RunL.cons (Op1.call8 (v1 := .int .u16 _) (v2 := str _) (v3 := .bool _) (v4 := .bool _) (v5 := str _) (v6 := str _) (v7 := .int .i64 _) (v8 := .int .u8 _) ent33 rfl rfl rfl rfl rfl rfl rfl rfl rfl ((R2ref_form _ _ _ _ _ _ _ _ _).mono fun v w hp => ?_))
    obtain ⟨rfl, hp⟩ := hp
    replace hst := hst.keepc hp
    clear hp
    refine RunL.cons (Op1.store (v := .agg #[.int .u16 _, str _, .bool _, .bool _, str _, str _, .int .i64 _, .int .u8 _]) hst ty38 rfl rfl rfl rfl rfl (.here) (by repeat (first | exact Put.nil | apply Put.put | apply Put.skip)) fun w hst => ?_)
    refine RunL.cons (Op1.assign (v := .bool _) rfl ?_)
    refine RunL.nil ?_
    refine run_ret2 Try.func18 rfl (RV.cellA (vs := [.int .u16 _, str _, .bool _, .bool _, str _, str _, .int .i64 _, .int .u8 _]) rfl ty38 rfl rfl (cells_of_obj (n := 8) (hst.objL (.head _)) _ rfl)) (RV.tmp (v := .bool _) rfl) ?_
    subst g78
    have e : refS 201 = some ⟨201, [79, 112, 66, 105, 116, 70, 105, 101, 108, 100, 73, 110, 115, 101, 114, 116], true, true, [105, 105, 105, 105], [], 0, 8⟩ := by decide +kernel
    rw [e]
    exact ⟨rfl, hst.pure⟩
  refine run_seq ?_
  refine run_region ?_
  refine RunL.cons (Op1.eql rfl rfl ?_)
  refine RunL.cons (Op1.assign (v := .bool _) rfl ?_)
  refine RunL.nil ?_
  refine run_cond_dec rfl (fun g79 => ?_) (fun g79 => ?_)
  · skip
    refine run_seq ?_
    refine run_region ?_
    refine RunL.cons (Op1.move (v := .int .u16 _) rfl ?_)
    refine RunL.cons (Op1.call8 (v1 := .int .u16 _) (v2 := str _) (v3 := .bool _) (v4 := .bool _) (v5 := str _) (v6 := str _) (v7 := .int .i64 _) (v8 := .int .u8 _) ent33 rfl rfl rfl rfl rfl rfl rfl rfl rfl ((R2ref_form _ _ _ _ _ _ _ _ _).mono fun v w hp => ?_))
    obtain ⟨rfl, hp⟩ := hp
    replace hst := hst.keepc hp
    clear hp
    refine RunL.cons (Op1.store (v := .agg #[.int .u16 _, str _, .bool _, .bool _, str _, str _, .int .i64 _, .int .u8 _]) hst ty38 rfl rfl rfl rfl rfl (.here) (by repeat (first | exact Put.nil | apply Put.put | apply Put.skip)) fun w hst => ?_)
    refine RunL.cons (Op1.assign (v := .bool _) rfl ?_)
    refine RunL.nil ?_
    refine run_ret2 Try.func18 rfl (RV.cellA (vs := [.int .u16 _, str _, .bool _, .bool _, str _, str _, .int .i64 _, .int .u8 _]) rfl ty38 rfl rfl (cells_of_obj (n := 8) (hst.objL (.head _)) _ rfl)) (RV.tmp (v := .bool _) rfl) ?_
    subst g79
    have e : refS 202 = some ⟨202, [79, 112, 66, 105, 116, 70, 105, 101, 108, 100, 83, 69, 120, 116, 114, 97, 99, 116], true, true, [105, 105, 105], [], 0, 8⟩ := by decide +kernel
    rw [e]
    exact ⟨rfl, hst.pure⟩
  refine run_seq ?_
  refine run_region ?_
  refine RunL.cons (Op1.eql rfl rfl ?_)
  refine RunL.cons (Op1.assign (v := .bool _) rfl ?_)
  refine RunL.nil ?_
  refine run_cond_dec rfl (fun g80 => ?_) (fun g80 => ?_)
  · skip
    refine run_seq ?_
    refine run_region ?_
    refine RunL.cons (Op1.move (v := .int .u16 _) rfl ?_)
    refine RunL.cons (Op1.call8 (v1 := .int .u16 _) (v2 := str _) (v3 := .bool _) (v4 := .bool _) (v5 := str _) (v6 := str _) (v7 := .int .i64 _) (v8 := .int .u8 _) ent33 rfl rfl rfl rfl rfl rfl rfl rfl rfl ((R2ref_form _ _ _ _ _ _ _ _ _).mono fun v w hp => ?_))
    obtain ⟨rfl, hp⟩ := hp
    replace hst := hst.keepc hp
    clear hp
    refine RunL.cons (Op1.store (v := .agg #[.int .u16 _, str _, .bool _, .bool _, str _, str _, .int .i64 _, .int .u8 _]) hst ty38 rfl rfl rfl rfl rfl (.here) (by repeat (first | exact Put.nil | apply Put.put | apply Put.skip)) fun w hst => ?_)
    refine RunL.cons (Op1.assign (v := .bool _) rfl ?_)
    refine RunL.nil ?_
    refine run_ret2 Try.func18 rfl (RV.cellA (vs := [.int .u16 _, str _, .bool _, .bool _, str _, str _, .int .i64 _, .int .u8 _]) rfl ty38 rfl rfl (cells_of_obj (n := 8) (hst.objL (.head _)) _ rfl)) (RV.tmp (v := .bool _) rfl) ?_
    subst g80
    have e : refS 203 = some ⟨203, [79, 112, 66, 105, 116, 70, 105, 101, 108, 100, 85, 69, 120, 116, 114, 97, 99, 116], true, true, [105, 105, 105], [], 0, 8⟩ := by decide +kernel
    rw [e]
    exact ⟨rfl, hst.pure⟩
  refine run_seq ?_
  refine run_region ?_
  refine RunL.cons (Op1.eql rfl rfl ?_)
  refine RunL.cons (Op1.assign (v := .bool _) rfl ?_)
  refine RunL.nil ?_
  refine run_cond_dec rfl (fun g81 => ?_) (fun g81 => ?_)
  · skip
    refine run_seq ?_
    refine run_region ?_
    refine RunL.cons (Op1.move (v := .int .u16 _) rfl ?_)
    refine RunL.cons (Op1.call8 (v1 := .int .u16 _) (v2 := str _) (v3 := .bool _) (v4 := .bool _) (v5 := str _) (v6 := str _) (v7 := .int .i64 _) (v8 := .int .u8 _) ent33 rfl rfl rfl rfl rfl rfl rfl rfl rfl ((R2ref_form _ _ _ _ _ _ _ _ _).mono fun v w hp => ?_))
    obtain ⟨rfl, hp⟩ := hp
    replace hst := hst.keepc hp
    clear hp
    refine RunL.cons (Op1.store (v := .agg #[.int .u16 _, str _, .bool _, .bool _, str _, str _, .int .i64 _, .int .u8 _]) hst ty38 rfl rfl rfl rfl rfl (.here) (by repeat (first | exact Put.nil | apply Put.put | apply Put.skip)) fun w hst => ?_)
    refine RunL.cons (Op1.assign (v := .bool _) rfl ?_)
    refine RunL.nil ?_
    refine run_ret2 Try.func18 rfl (RV.cellA (vs := [.int .u16 _, str _, .bool _, .bool _, str _, str _, .int .i64 _, .int .u8 _]) rfl ty38 rfl rfl (cells_of_obj (n := 8) (hst.objL (.head _)) _ rfl)) (RV.tmp (v := .bool _) rfl) ?_
    subst g81
    have e : refS 204 = some ⟨204, [79, 112, 66, 105, 116, 82, 101, 118, 101, 114, 115, 101], true, true, [105], [], 0, 8⟩ := by decide +kernel
    rw [e]
    exact ⟨rfl, hst.pure⟩
  refine run_seq ?_
  refine run_region ?_
  refine RunL.cons (Op1.eql rfl rfl ?_)
  refine RunL.cons (Op1.assign (v := .bool _) rfl ?_)
  refine RunL.nil ?_
  refine run_cond_dec rfl (fun g82 => ?_) (fun g82 => ?_)
  · skip
    refine run_seq ?_
    refine run_region ?_
    refine RunL.cons (Op1.move (v := .int .u16 _) rfl ?_)
    refine RunL.cons (Op1.call8 (v1 := .int .u16 _) (v2 := str _) (v3 := .bool _) (v4 := .bool _) (v5 := str _) (v6 := str _) (v7 := .int .i64 _) (v8 := .int .u8 _) ent33 rfl rfl rfl rfl rfl rfl rfl rfl rfl ((R2ref_form _ _ _ _ _ _ _ _ _).mono fun v w hp => ?_))
    obtain ⟨rfl, hp⟩ := hp
    replace hst := hst.keepc hp
    clear hp
    refine RunL.cons (Op1.store (v := .agg #[.int .u16 _, str _, .bool _, .bool _, str _, str _, .int .i64 _, .int .u8 _]) hst ty38 rfl rfl rfl rfl rfl (.here) (by repeat (first | exact Put.nil | apply Put.put | apply Put.skip)) fun w hst => ?_)
    refine RunL.cons (Op1.assign (v := .bool _) rfl ?_)
    refine RunL.nil ?_
    refine run_ret2 Try.func18 rfl (RV.cellA (vs := [.int .u16 _, str _, .bool _, .bool _, str _, str _, .int .i64 _, .int .u8 _]) rfl ty38 rfl rfl (cells_of_obj (n := 8) (hst.objL (.head _)) _ rfl)) (RV.tmp (v := .bool _) rfl) ?_
    subst g82
    have e : refS 205 = some ⟨205, [79, 112, 66, 105, 116, 67, 111, 117, 110, 116], true, true, [105], [], 0, 8⟩ := by decide +kernel
    rw [e]
    exact ⟨rfl, hst.pure⟩
  refine run_seq ?_
  refine run_region ?_
  refine RunL.cons (Op1.eql rfl rfl ?_)
  refine RunL.cons (Op1.assign (v := .bool _) rfl ?_)
  refine RunL.nil ?_
  refine run_cond_dec rfl (fun g83 => ?_) (fun g83 => ?_)
  · skip
    refine run_seq ?_
    refine run_region ?_
    refine RunL.cons (Op1.move (v := .int .u16 _) rfl ?_)
    refine RunL.cons (Op1.call8 (v1 := .int .u16 _) (v2 := str _) (v3 := .bool _) (v4 := .bool _) (v5 := str _) (v6 := str _) (v7 := .int .i64 _) (v8 := .int .u8 _) ent33 rfl rfl rfl rfl rfl rfl rfl rfl rfl ((R2ref_form _ _ _ _ _ _ _ _ _).mono fun v w hp => ?_))
    obtain ⟨rfl, hp⟩ := hp
    replace hst := hst.keepc hp
    clear hp
    refine RunL.cons (Op1.store (v := .agg #[.int .u16 _, str _, .bool _, .bool _, str _, str _, .int .i64 _, .int .u8 _]) hst ty38 rfl rfl rfl rfl rfl (.here) (by repeat (first | exact Put.nil | apply Put.put | apply Put.skip)) fun w hst => ?_)
    refine RunL.cons (Op1.assign (v := .bool _) rfl ?_)
    refine RunL.nil ?_
    refine run_ret2 Try.func18 rfl (RV.cellA (vs := [.int .u16 _, str _, .bool _, .bool _, str _, str _, .int .i64 _, .int .u8 _]) rfl ty38 rfl rfl (cells_of_obj (n := 8) (hst.objL (.head _)) _ rfl)) (RV.tmp (v := .bool _) rfl) ?_
    subst g83
    have e : refS 245 = some ⟨245, [79, 112, 80, 104, 105], true, true, [], [105, 105], 0, 8⟩ := by decide +kernel
    rw [e]
    exact ⟨rfl, hst.pure⟩
  refine run_seq ?_
  refine run_region ?_
  refine RunL.cons (Op1.eql rfl rfl ?_)
  refine RunL.cons (Op1.assign (v := .bool _) rfl ?_)
  refine RunL.nil ?_
  refine run_cond_dec rfl (fun g84 => ?_) (fun g84 => ?_)
  · skip
    refine run_seq ?_
    refine run_region ?_
    refine RunL.cons (Op1.move (v := .int .u16 _) rfl ?_)
    refine RunL.cons (Op1.call8 (v1 := .int .u16 _) (v2 := str _) (v3 := .bool _) (v4 := .bool _) (v5 := str _) (v6 := str _) (v7 := .int .i64 _) (v8 := .int .u8 _) ent33 rfl rfl rfl rfl rfl rfl rfl rfl rfl ((R2ref_form _ _ _ _ _ _ _ _ _).mono fun v w hp => ?_))
    obtain ⟨rfl, hp⟩ := hp
    replace hst := hst.keepc hp
    clear hp
    refine RunL.cons (Op1.store (v := .agg #[.int .u16 _, str _, .bool _, .bool _, str _, str _, .int .i64 _, .int .u8 _]) hst ty38 rfl rfl rfl rfl rfl (.here) (by repeat (first | exact Put.nil | apply Put.put | apply Put.skip)) fun w hst => ?_)
    refine RunL.cons (Op1.assign (v := .bool _) rfl ?_)
    refine RunL.nil ?_
    refine run_ret2 Try.func18 rfl (RV.cellA (vs := [.int .u16 _, str _, .bool _, .bool _, str _, str _, .int .i64 _, .int .u8 _]) rfl ty38 rfl rfl (cells_of_obj (n := 8) (hst.objL (.head _)) _ rfl)) (RV.tmp (v := .bool _) rfl) ?_
    subst g84
    have e : refS 246 = some ⟨246, [79, 112, 76, 111, 111, 112, 77, 101, 114, 103, 101], false, false, [105, 105, 103], [], 0, 8⟩ := by decide +kernel
    rw [e]
    exact ⟨rfl, hst.pure⟩
  refine run_seq ?_
  refine run_region ?_
  refine RunL.cons (Op1.eql rfl rfl ?_)
  refine RunL.cons (Op1.assign (v := .bool _) rfl ?_)
  refine RunL.nil ?_
  refine run_cond_dec rfl (fun g85 => ?_) (fun g85 => ?_)
  · skip
    refine run_seq ?_
    refine run_region ?_
    refine RunL.cons (Op1.move (v := .int .u16 _) rfl ?_)
    refine RunL.cons (Op1.call8 (v1 := .int .u16 _) (v2 := str _) (v3 := .bool _) (v4 := .bool _) (v5 := str _) (v6 := str _) (v7 := .int .i64 _) (v8 := .int .u8 _) ent33 rfl rfl rfl rfl rfl rfl rfl rfl rfl ((R2ref_form _ _ _ _ _ _ _ _ _).mono fun v w hp => ?_))
    obtain ⟨rfl, hp⟩ := hp
    replace hst := hst.keepc hp
    clear hp
    refine RunL.cons (Op1.store (v := .agg #[.int .u16 _, str _, .bool _, .bool _, str _, str _, .int .i64 _, .int .u8 _]) hst ty38 rfl rfl rfl rfl rfl (.here) (by repeat (first | exact Put.nil | apply Put.put | apply Put.skip)) fun w hst => ?_)
    refine RunL.cons (Op1.assign (v := .bool _) rfl ?_)
    refine RunL.nil ?_
    refine run_ret2 Try.func18 rfl (RV.cellA (vs := [.int .u16 _, str _, .bool _, .bool _, str _, str _, .int .i64 _, .int .u8 _]) rfl ty38 rfl rfl (cells_of_obj (n := 8) (hst.objL (.head _)) _ rfl)) (RV.tmp (v := .bool _) rfl) ?_
    subst g85
    have e : refS 247 = some ⟨247, [79, 112, 83, 101, 108, 101, 99, 116, 105, 111, 110, 77, 101, 114, 103, 101], false, false, [105, 104], [], 0, 8⟩ := by decide +kernel
    rw [e]
    exact ⟨rfl, hst.pure⟩
  refine run_seq ?_
  refine run_region ?_
  refine RunL.cons (Op1.eql rfl rfl ?_)
  refine RunL.cons (Op1.assign (v := .bool _) rfl ?_)
  refine RunL.nil ?_
  refine run_cond_dec rfl (fun g86 => ?_) (fun g86 => ?_)
  · skip
    refine run_seq ?_
    refine run_region ?_
    refine RunL.cons (Op1.move (v := .int .u16 _) rfl ?_)
    refine RunL.cons (Op1.call8 (v1 := .int .u16 _) (v2 := str _) (v3 := .bool _) (v4 := .bool _) (v5 := str _) (v6 := str _) (v7 := .int .i64 _) (v8 := .int .u8 _) ent33 rfl rfl rfl rfl rfl rfl rfl rfl rfl ((R2ref_form _ _ _ _ _ _ _ _ _).mono fun v w hp => ?_))
    obtain ⟨rfl, hp⟩ := hp
    replace hst := hst.keepc hp
    clear hp
    refine RunL.cons (Op1.store (v := .agg #[.int .u16 _, str _, .bool _, .bool _, str _, str _, .int .i64 _, .int .u8 _]) hst ty38 rfl rfl rfl rfl rfl (.here) (by repeat (first | exact Put.nil | apply Put.put | apply Put.skip)) fun w hst => ?_)
    refine RunL.cons (Op1.assign (v := .bool _) rfl ?_)
    refine RunL.nil ?_
    refine run_ret2 Try.func18 rfl (RV.cellA (vs := [.int .u16 _, str _, .bool _, .bool _, str _, str _, .int .i64 _, .int .u8 _]) rfl ty38 rfl rfl (cells_of_obj (n := 8) (hst.objL (.head _)) _ rfl)) (RV.tmp (v := .bool _) rfl) ?_
    subst g86
    have e : refS 248 = some ⟨248, [79, 112, 76, 97, 98, 101, 108], false, true, [], [], 0, 8⟩ := by decide +kernel
    rw [e]
    exact ⟨rfl, hst.pure⟩
  refine run_seq ?_
  refine run_region ?_
  refine RunL.cons (Op1.eql rfl rfl ?_)
  refine RunL.cons (Op1.assign (v := .bool _) rfl ?_)
  refine RunL.nil ?_
  refine run_cond_dec rfl (fun g87 => ?_) (fun g87 => ?_)
  · skip
    refine run_seq ?_
    refine run_region ?_
    refine RunL.cons (Op1.move (v := .int .u16 _) rfl ?_)
    refine RunL.cons (Op1.call8 (v1 := .int .u16 _) (v2 := str _) (v3 := .bool _) (v4 := .bool _) (v5 := str _) (v6 := str _) (v7 := .int .i64 _) (v8 := .int .u8 _) ent33 rfl rfl rfl rfl rfl rfl rfl rfl rfl ((R2ref_form _ _ _ _ _ _ _ _ _).mono fun v w hp => ?_))
    obtain ⟨rfl, hp⟩ := hp
    replace hst := hst.keepc hp
    clear hp
    refine RunL.cons (Op1.store (v := .agg #[.int .u16 _, str _, .bool _, .bool _, str _, str _, .int .i64 _, .int .u8 _]) hst ty38 rfl rfl rfl rfl rfl (.here) (by repeat (first | exact Put.nil | apply Put.put | apply Put.skip)) fun w hst => ?_)
    refine RunL.cons (Op1.assign (v := .bool _) rfl ?_)
    refine RunL.nil ?_
    refine run_ret2 Try.func18 rfl (RV.cellA (vs := [.int .u16 _, str _, .bool _, .bool _, str _, str _, .int .i64 _, .int .u8 _]) rfl ty38 rfl rfl (cells_of_obj (n := 8) (hst.objL (.head _)) _ rfl)) (RV.tmp (v := .bool _) rfl) ?_
    subst g87
    have e : refS 249 = some ⟨249, [79, 112, 66, 114, 97, 110, 99, 104], false, false, [105], [], 0, 8⟩ := by decide +kernel
    rw [e]
    exact ⟨rfl, hst.pure⟩
  refine run_seq ?_
  refine run_region ?_
  refine RunL.cons (Op1.eql rfl rfl ?_)
  refine RunL.cons (Op1.assign (v := .bool _) rfl ?_)
  refine RunL.nil ?_
  refine Run.forget [(0, .int .u16 _), (2, .pointer (some ⟨_, _, none⟩)), (4, .int .u16 _), (353, .bool _)] ⟨rfl, rfl, rfl, rfl, trivial⟩ (fun f => ?_)
  refine run_cond_dec rfl (fun g88 => ?_) (fun g88 => ?_)
  · skip
    refine run_seq ?_
    refine run_region ?_
    refine RunL.cons (Op1.move (v := .int .u16 _) rfl ?_)
    refine RunL.cons (Op1.call8 (v1 := .int .u16 _) (v2 := str _) (v3 := .bool _) (v4 := .bool _) (v5 := str _) (v6 := str _) (v7 := .int .i64 _) (v8 := .int .u8 _) ent33 rfl rfl rfl rfl rfl rfl rfl rfl rfl ((R2ref_form _ _ _ _ _ _ _ _ _).mono fun v w hp => ?_))
    obtain ⟨rfl, hp⟩ := hp
    replace hst := hst.keepc hp
    clear hp
    refine RunL.cons (Op1.store (v := .agg #[.int .u16 _, str _, .bool _, .bool _, str _, str _, .int .i64 _, .int .u8 _]) hst ty38 rfl rfl rfl rfl rfl (.here) (by repeat (first | exact Put.nil | apply Put.put | apply Put.skip)) fun w hst => ?_)
    refine RunL.cons (Op1.assign (v := .bool _) rfl ?_)
    refine RunL.nil ?_
    refine run_ret2 Try.func18 rfl (RV.cellA (vs := [.int .u16 _, str _, .bool _, .bool _, str _, str _, .int .i64 _, .int .u8 _]) rfl ty38 rfl rfl (cells_of_obj (n := 8) (hst.objL (.head _)) _ rfl)) (RV.tmp (v := .bool _) rfl) ?_
    subst g88
    have e : refS 250 = some ⟨250, [79, 112, 66, 114, 97, 110, 99, 104, 67, 111, 110, 100, 105, 116, 105, 111, 110, 97, 108], false, false, [105, 105, 105], [], 0, 8⟩ := by decide +kernel
    rw [e]
    exact ⟨rfl, hst.pure⟩
  refine run_seq ?_
  refine run_region ?_
  refine RunL.cons (Op1.eql rfl rfl ?_)
  refine RunL.cons (Op1.assign (v := .bool _) rfl ?_)
  refine RunL.nil ?_
  refine run_cond_dec rfl (fun g89 => ?_) (fun g89 => ?_)
  · skip
    refine run_seq ?_
    refine run_region ?_
    refine RunL.cons (Op1.move (v := .int .u16 _) rfl ?_)
    refine RunL.cons (Op1.call8 (v1 := .int .u16 _) (v2 := str _) (v3 := .bool _) (v4 := .bool _) (v5 := str _) (v6 := str _) (v7 := .int .i64 _) (v8 := .int .u8 _) ent33 rfl rfl rfl rfl rfl rfl rfl rfl rfl ((R2ref_form _ _ _ _ _ _ _ _ _).mono fun v w hp => ?_))
    obtain ⟨rfl, hp⟩ := hp
    replace hst := hst.keepc hp
    clear hp
    refine RunL.cons (Op1.store (v := .agg #[.int .u16 _, str _, .bool _, .bool _, str _, str _, .int .i64 _, .int .u8 _]) hst ty38 rfl rfl rfl rfl rfl (.here) (by repeat (first | exact Put.nil | apply Put.put | apply Put.skip)) fun w hst => ?_)
    refine RunL.cons (Op1.assign (v := .bool _) rfl ?_)
    refine RunL.nil ?_
    refine run_ret2 Try.func18 rfl (RV.cellA (vs := [.int .u16 _, str _, .bool _, .bool _, str _, str _, .int .i64 _, .int .u8 _]) rfl ty38 rfl rfl (cells_of_obj (n := 8) (hst.objL (.head _)) _ rfl)) (RV.tmp (v := .bool _) rfl) ?_
    subst g89
    have e : refS 251 = some ⟨251, [79, 112, 83, 119, 105, 116, 99, 104], false, false, [105, 105], [110, 105], 0, 8⟩ := by decide +kernel
    rw [e]
    exact ⟨rfl, hst.pure⟩
  refine run_seq ?_
  refine run_region ?_
  refine RunL.cons (Op1.eql rfl rfl ?_)
  refine RunL.cons (Op1.assign (v := .bool _) rfl ?_)
  refine RunL.nil ?_
  refine run_cond_dec rfl (fun g90 => ?_) (fun g90 => ?_)
  · skip
    refine run_seq ?_
    refine run_region ?_
    refine RunL.cons (Op1.move (v := .int .u16 _) rfl ?_)
    refine RunL.cons (Op1.call8 (v1 := .int .u16 _) (v2 := str _) (v3 := .bool _) (v4 := .bool _) (v5 := str _) (v6 := str _) (v7 := .int .i64 _) (v8 := .int .u8 _) ent33 rfl rfl rfl rfl rfl rfl rfl rfl rfl ((R2ref_form _ _ _ _ _ _ _ _ _).mono fun v w hp => ?_))
    obtain ⟨rfl, hp⟩ := hp
    replace hst := hst.keepc hp
    clear hp
    refine RunL.cons (Op1.store (v := .agg #[.int .u16 _, str _, .bool _, .bool _, str _, str _, .int .i64 _, .int .u8 _]) hst ty38 rfl rfl rfl rfl rfl (.here) (by repeat (first | exact Put.nil | apply Put.put | apply Put.skip)) fun w hst => ?_)
    refine RunL.cons (Op1.assign (v := .bool _) rfl ?_)
    refine RunL.nil ?_
    refine run_ret2 Try.func18 rfl (RV.cellA (vs := [.int .u16 _, str _, .bool _, .bool _, str _, str _, .int .i64 _, .int .u8 _]) rfl ty38 rfl rfl (cells_of_obj (n := 8) (hst.objL (.head _)) _ rfl)) (RV.tmp (v := .bool _) rfl) ?_
    subst g90
    have e : refS 252 = some ⟨252, [79, 112, 75, 105, 108, 108], false, false, [], [], 0, 8⟩ := by decide +kernel
    rw [e]
    exact ⟨rfl, hst.pure⟩
  refine run_seq ?_
  refine run_region ?_
  refine RunL.cons (Op1.eql rfl rfl ?_)
  refine RunL.cons (Op1.assign (v := .bool _) rfl ?_)
  refine RunL.nil ?_
  refine run_cond_dec rfl (fun g91 => ?_) (fun g91 => ?_)
  · skip
    refine run_seq ?_
    refine run_region ?_
    refine RunL.cons (Op1.move (v := .int .u16 _) rfl ?_)
    refine RunL.cons (Op1.call8 (v1 := .int .u16 _) (v2 := str _) (v3 := .bool _) (v4 := .bool _) (v5 := str _) (v6 := str _) (v7 := .int .i64 _) (v8 := .int .u8 _) ent33 rfl rfl rfl rfl rfl rfl rfl rfl rfl ((R2ref_form _ _ _ _ _ _ _ _ _).mono fun v w hp => ?_))
    obtain ⟨rfl, hp⟩ := hp
    replace hst := hst.keepc hp
    clear hp
    refine RunL.cons (Op1.store (v := .agg #[.int .u16 _, str _, .bool _, .bool _, str _, str _, .int .i64 _, .int .u8 _]) hst ty38 rfl rfl rfl rfl rfl (.here) (by repeat (first | exact Put.nil | apply Put.put | apply Put.skip)) fun w hst => ?_)
    refine RunL.cons (Op1.assign (v := .bool _) rfl ?_)
    refine RunL.nil ?_
    refine run_ret2 Try.func18 rfl (RV.cellA (vs := [.int .u16 _, str _, .bool _, .bool _, str _, str _, .int .i64 _, .int .u8 _]) rfl ty38 rfl rfl (cells_of_obj (n := 8) (hst.objL (.head _)) _ rfl)) (RV.tmp (v := .bool _) rfl) ?_
    subst g91
    have e : refS 253 = some ⟨253, [79, 112, 82, 101, 116, 117, 114, 110], false, false, [], [], 0, 8⟩ := by decide +kernel
    rw [e]
    exact ⟨rfl, hst.pure⟩
  refine run_seq ?_
  refine run_region ?_
  refine RunL.cons (Op1.eql rfl rfl ?_)
  refine RunL.cons (Op1.assign (v := .bool _) rfl ?_)
  refine RunL.nil ?_
  refine run_cond_dec rfl (fun g92 => ?_) (fun g92 => ?_)
  · skip
    refine run_seq ?_
    refine run_region ?_
    refine RunL.cons (Op1.move (v := .int .u16 _) rfl ?_)
    refine RunL.cons (Op1.call8 (v1 := .int .u16 _) (v2 := str _) (v3 := .bool _) (v4 := .bool _) (v5 := str _) (v6 := str _) (v7 := .int .i64 _) (v8 := .int .u8 _) ent33 rfl rfl rfl rfl rfl rfl rfl rfl rfl ((R2ref_form _ _ _ _ _ _ _ _ _).mono fun v w hp => ?_))
    obtain ⟨rfl, hp⟩ := hp
    replace hst := hst.keepc hp
    clear hp
    refine RunL.cons (Op1.store (v := .agg #[.int .u16 _, str _, .bool _, .bool _, str _, str _, .int .i64 _, .int .u8 _]) hst ty38 rfl rfl rfl rfl rfl (.here) (by repeat (first | exact Put.nil | apply Put.put | apply Put.skip)) fun w hst => ?_)
    refine RunL.cons (Op1.assign (v := .bool _) rfl ?_)
    refine RunL.nil ?_
    refine run_ret2 Try.func18 rfl (RV.cellA (vs := [.int .u16 _, str _, .bool _, .bool _, str _, str _, .int .i64 _, .int .u8 _]) rfl ty38 rfl rfl (cells_of_obj (n := 8) (hst.objL (.head _)) _ rfl)) (RV.tmp (v := .bool _) rfl) ?_
    subst g92
    have e : refS 254 = some ⟨254, [79, 112, 82, 101, 116, 117, 114, 110, 86, 97, 108, 117, 101], false, false, [105], [], 0, 8⟩ := by decide +kernel
    rw [e]
    exact ⟨rfl, hst.pure⟩
  refine run_seq ?_
  refine run_region ?_
  refine RunL.cons (Op1.eql rfl rfl ?_)
  refine RunL.cons (Op1.assign (v := .bool _) rfl ?_)
  refine RunL.nil ?_
  refine run_cond_dec rfl (fun g93 => ?_) (fun g93 => ?_)
  · skip
    refine run_seq ?_
    refine run_region ?_
    refine RunL.cons (Op1.move (v := .int .u16 _) rfl ?_)
    refine RunL.cons (Op1.call8 (v1 := .int .u16 _) (v2 := str _) (v3 := .bool _) (v4 := .bool _) (v5 := str _) (v6 := str _) (v7 := .int .i64 _) (v8 := .int .u8 _) ent33 rfl rfl rfl rfl rfl rfl rfl rfl rfl ((R2ref_form _ _ _ _ _ _ _ _ _).mono fun v w hp => ?_))
    obtain ⟨rfl, hp⟩ := hp
    replace hst := hst.keepc hp
    clear hp
    refine RunL.cons (Op1.store (v := .agg #[.int .u16 _, str _, .bool _, .bool _, str _, str _, .int .i64 _, .int .u8 _]) hst ty38 rfl rfl rfl rfl rfl (.here) (by repeat (first | exact Put.nil | apply Put.put | apply Put.skip)) fun w hst => ?_)
    refine RunL.cons (Op1.assign (v := .bool _) rfl ?_)
    refine RunL.nil ?_
    refine run_ret2 Try.func18 rfl (RV.cellA (vs := [.int .u16 _, str _, .bool _, .bool _, str _, str _, .int .i64 _, .int .u8 _]) rfl ty38 rfl rfl (cells_of_obj (n := 8) (hst.objL (.head _)) _ rfl)) (RV.tmp (v := .bool _) rfl) ?_
    subst g93
    have e : refS 255 = some ⟨255, [79, 112, 85, 110, 114, 101, 97, 99, 104, 97, 98, 108, 101], false, false, [], [], 0, 8⟩ := by decide +kernel
    rw [e]
    exact ⟨rfl, hst.pure⟩
  refine run_skip ?_
  refine run_inBlock ?_
  refine run_seq ?_
  refine run_region ?_
  refine RunL.cons (Op1.buildStruct ty38 stf38 .nil ?_)
  refine RunL.cons (Op1.store (v := .agg #[.int .u16 _, str _, .bool _, .bool _, str _, str _, .int .i64 _, .int .u8 _]) hst ty38 rfl rfl rfl rfl rfl (.here) (by repeat (first | exact Put.nil | apply Put.put | apply Put.skip)) fun w hst => ?_)
  refine RunL.cons (Op1.assign (v := .bool _) rfl ?_)
  refine RunL.nil ?_
  refine run_ret2 Try.func18 rfl (RV.cellA (vs := [.int .u16 _, str _, .bool _, .bool _, str _, str _, .int .i64 _, .int .u8 _]) rfl ty38 rfl rfl (cells_of_obj (n := 8) (hst.objL (.head _)) _ rfl)) (RV.tmp (v := .bool _) rfl) ?_
  rw [show refS op = none from refF_none (by simp only [refT, List.forall_mem_cons]; exact ⟨g1, g2, g3, g4, g5, g6, g7, g8, g9, g10, g11, g12, g13, g14, g15, g16, g17, g18, g19, g20, g21, g22, g23, g24, g25, g26, g27, g28, g29, g30, g31, g32, g33, g34, g35, g36, g37, g38, g39, g40, g41, g42, g43, g44, g45, g46, g47, g48, g49, g50, g51, g52, g53, g54, g55, g56, g57, g58, g59, g60, g61, g62, g63, g64, g65, g66, g67, g68, g69, g70, g71, g72, g73, g74, g75, g76, g77, g78, g79, g80, g81, g82, g83, g84, g85, g86, g87, g88, g89, g90, g91, g92, g93, fun _ h => absurd h List.not_mem_nil⟩)]
  exact ⟨rfl, hst.pure⟩

theorem R2gr_Of (op : Int) (h0 : 0 ≤ op) (w : World) : Ret Try.prog 19 #[.int .u16 op] w (fun v w' => v = formV (refS op) ∧ St w NoM [] [] w') := by
  refine Ret.enter (args := [.int .u16 op]) Try.func19 rfl rfl rfl ?_
  have hst := St.init w
  refine run_seq ?_
  refine run_region ?_
  refine RunL.cons (Op1.alloc hst ty38 fun w b2 hst => ?_)
  refine RunL.cons (Op1.assign (v := .bool _) rfl ?_)
  refine RunL.nil ?_
  refine run_seq ?_
  refine run_region ?_
  refine RunL.cons (Op1.move (v := .int .u16 _) rfl ?_)
  refine RunL.cons (Op1.call1 (v1 := .int .u16 _) ent34 rfl rfl ((R2gr_row _ _).mono fun v w hp => ?_))
  obtain ⟨rfl, hp⟩ := hp
  replace hst := hst.keepc hp
  clear hp
  refine RunL.cons (Op1.assign (v := str _) rfl ?_)
  refine RunL.nil ?_
  refine run_seq ?_
  refine run_seq ?_
  refine run_region ?_
  refine RunL.cons (Op1.move (v := str _) rfl ?_)
  refine RunL.cons (Op1.eqlS rfl rfl ?_)
  refine RunL.nil ?_
  refine run_cond_dec rfl (fun g1 => ?_) (fun g1 => ?_)
  · skip
    have hemp := g1
    refine run_seq ?_
    refine run_region ?_
    refine RunL.cons (Op1.buildStruct ty38 stf38 .nil ?_)
    refine RunL.cons (Op1.store (v := .agg #[.int .u16 _, str _, .bool _, .bool _, str _, str _, .int .i64 _, .int .u8 _]) hst ty38 rfl rfl rfl rfl rfl (.here) (by repeat (first | exact Put.nil | apply Put.put | apply Put.skip)) fun w hst => ?_)
    refine RunL.cons (Op1.assign (v := .bool _) rfl ?_)
    refine RunL.nil ?_
    refine run_ret2 Try.func19 rfl (RV.cellA (vs := [.int .u16 _, str _, .bool _, .bool _, str _, str _, .int .i64 _, .int .u8 _]) rfl ty38 rfl rfl (cells_of_obj (n := 8) (hst.objL (.head _)) _ rfl)) (RV.tmp (v := .bool _) rfl) ?_
    rw [← (rowS_all h0).2]
    have e : ofS op = none := by unfold ofS; rw [if_pos hemp]
    rw [e]
    exact ⟨rfl, hst.pure⟩
  have hemp := g1
  obtain ⟨fd0, fd1, fd2, fd3, fd4, fd5, hf⟩ := R2six (fieldsF_len (rowS op))
  replace hf : fieldsS (rowS op) = [fd0, fd1, fd2, fd3, fd4, fd5] := hf
  obtain ⟨_, _, _, hfa, hf5⟩ := rowOk_spec (rowS_all h0).1
  rw [hf] at hfa hf5
  replace hf5 : 0 < fd5.length := List.length_pos_iff.2 (hf5.resolve_left hemp)
  have hasc : ∀ c ∈ fd1, c.toNat < 128 := hfa fd1 (by simp)
  refine run_skip ?_
  refine run_seq ?_
  refine run_region ?_
  refine RunL.cons (Op1.move (v := str _) rfl ?_)
  refine RunL.cons (Op1.call1 (v1 := str _) ent35 rfl rfl ((R2gr_fields _ _ _ _ _ _ _ (rowS_all h0).1 hf _).mono fun v w hp => ?_))
  obtain ⟨rfl, hp⟩ := hp
  replace hst := hst.keepc hp
  clear hp
  refine RunL.cons (Op1.alloc hst ty64 fun w b5 hst => ?_)
  refine RunL.cons (Op1.store (v := .agg #[str _, str _, str _, str _, str _, str _]) hst ty64 rfl rfl rfl rfl rfl (.here) (by repeat (first | exact Put.nil | apply Put.put | apply Put.skip)) fun w hst => ?_)
  refine RunL.nil ?_
  refine run_seq ?_
  refine RunD.start [] hst (bs := [0, 0, 2, 0, 8, 0, 32, 0, 128, 384, 896, 2047, 0, 8191]) (ds := [some 16, some 17, some 18, some 19, some 20, some 21, some 22, some 23, some 24, some 25, some 26, some 27, some 6, none]) ⟨by kernel_rfl, by kernel_rfl, by kernel_rfl⟩ (fun tab2 => ?_)
  refine RunD.op (det _) tab2 1 (fun f' L' w' hc => Op1.move (v := .int .u16 _) (hc.old (v := .int .u16 _) rfl rfl rfl) ⟨[], ⟨rfl, rfl⟩, hc.st⟩) ?_
  refine RunD.op (det _) tab2 2 (fun f' L' w' hc => Op1.indexArr ty64 ty9 (hc.old (v := .pointer (some ⟨_, _, none⟩)) rfl rfl rfl) rfl (by decide) (by decide) ⟨[], ⟨rfl, rfl⟩, hc.st⟩) ?_
  refine RunD.op (det _) tab2 3 (fun f' L' w' hc => Op1.load1 (v := str _) ty9 rfl (hc.det (j := 1) rfl rfl rfl rfl) (hc.st.cellL (List.mem_append_right _ (.head _)) rfl) ⟨[], ⟨rfl, rfl⟩, hc.st⟩) ?_
  refine RunD.op (det _) tab2 4 (fun f' L' w' hc => Op1.indexArr ty64 ty9 (hc.old (v := .pointer (some ⟨_, _, none⟩)) rfl rfl rfl) rfl (by decide) (by decide) ⟨[], ⟨rfl, rfl⟩, hc.st⟩) ?_
  refine RunD.op (det _) tab2 5 (fun f' L' w' hc => Op1.load1 (v := str _) ty9 rfl (hc.det (j := 3) rfl rfl rfl rfl) (hc.st.cellL (List.mem_append_right _ (.head _)) rfl) ⟨[], ⟨rfl, rfl⟩, hc.st⟩) ?_
  refine RunD.op (det _) tab2 6 (fun f' L' w' hc => Op1.indexArr ty64 ty9 (hc.old (v := .pointer (some ⟨_, _, none⟩)) rfl rfl rfl) rfl (by decide) (by decide) ⟨[], ⟨rfl, rfl⟩, hc.st⟩) ?_
  refine RunD.op (det _) tab2 7 (fun f' L' w' hc => Op1.load1 (v := str _) ty9 rfl (hc.det (j := 5) rfl rfl rfl rfl) (hc.st.cellL (List.mem_append_right _ (.head _)) rfl) ⟨[], ⟨rfl, rfl⟩, hc.st⟩) ?_
  refine RunD.op (det _) tab2 8 (fun f' L' w' hc => Op1.indexArr ty64 ty9 (hc.old (v := .pointer (some ⟨_, _, none⟩)) rfl rfl rfl) rfl (by decide) (by decide) ⟨[], ⟨rfl, rfl⟩, hc.st⟩) ?_
  refine RunD.op (det _) tab2 9 (fun f' L' w' hc => Op1.load1 (v := str _) ty9 rfl (hc.det (j := 7) rfl rfl rfl rfl) (hc.st.cellL (List.mem_append_right _ (.head _)) rfl) ⟨[], ⟨rfl, rfl⟩, hc.st⟩) ?_
  refine RunD.op (det _) tab2 10 (fun f' L' w' hc => Op1.indexS ty9 (hc.det (j := 8) rfl rfl rfl rfl) rfl (by omega) (by omega) ⟨[], ⟨rfl, rfl⟩, hc.st⟩) ?_
  refine RunD.op (det _) tab2 11 (fun f' L' w' hc => Op1.sub (hc.det (j := 9) rfl rfl rfl rfl) rfl ⟨[], ⟨rfl, rfl⟩, hc.st⟩) ?_
  refine RunD.op (det _) tab2 12 (fun f' L' w' hc => Op1.buildStruct ty38 stf38 (.cons rfl (v := .int .u16 _) (hc.det (j := 0) rfl rfl rfl rfl) rfl rfl rfl (by repeat (first | exact Put.nil | apply Put.put | apply Put.skip)) (.cons rfl (v := str _) (hc.det (j := 2) rfl rfl rfl rfl) rfl rfl rfl (by repeat (first | exact Put.nil | apply Put.put | apply Put.skip)) (.cons rfl (v := str _) (hc.det (j := 4) rfl rfl rfl rfl) rfl rfl rfl (by repeat (first | exact Put.nil | apply Put.put | apply Put.skip)) (.cons rfl (v := str _) (hc.det (j := 6) rfl rfl rfl rfl) rfl rfl rfl (by repeat (first | exact Put.nil | apply Put.put | apply Put.skip)) (.cons rfl (v := .int .u8 _) (hc.det (j := 10) rfl rfl rfl rfl) rfl rfl rfl (by repeat (first | exact Put.nil | apply Put.put | apply Put.skip)) .nil))))) ⟨[], ⟨rfl, rfl⟩, hc.st⟩) ?_
  refine RunD.op (fun v rs => ∃ b, v = .pointer (some ⟨b, 0, none⟩) ∧ rs = [Res.row b 38 [.int .u16 0, str [], .bool false, .bool false, str [], str [], .int .i64 0, .int .u8 0]]) tab2 13 (fun f' L' w' hc => Op1.alloc hc.st ty38 fun w b hst => ⟨[_], ⟨b, rfl, rfl⟩, hst⟩) ?_
  refine RunD.fin followsMixed tab2 hst rfl (fun f3 w R6 hs4 hd5 hr7 hst => ?_)
  obtain ⟨h16_, r0⟩ := hd5 0 16 rfl rfl
  obtain ⟨h17_, r1⟩ := hd5 1 17 rfl rfl
  obtain ⟨h18_, r2⟩ := hd5 2 18 rfl rfl
  obtain ⟨h19_, r3⟩ := hd5 3 19 rfl rfl
  obtain ⟨h20_, r4⟩ := hd5 4 20 rfl rfl
  obtain ⟨h21_, r5⟩ := hd5 5 21 rfl rfl
  obtain ⟨h22_, r6⟩ := hd5 6 22 rfl rfl
  obtain ⟨h23_, r7⟩ := hd5 7 23 rfl rfl
  obtain ⟨h24_, r8⟩ := hd5 8 24 rfl rfl
  obtain ⟨h25_, r9⟩ := hd5 9 25 rfl rfl
  obtain ⟨h26_, r10⟩ := hd5 10 26 rfl rfl
  obtain ⟨h27_, r11⟩ := hd5 11 27 rfl rfl
  obtain ⟨b6, h6_, r12⟩ := hd5 12 6 rfl rfl
  simp only [show List.range 13 = [0, 1, 2, 3, 4, 5, 6, 7, 8, 9, 10, 11, 12] from rfl, List.flatMap_cons, List.flatMap_nil, List.map_cons, List.map_nil, r0, r1, r2, r3, r4, r5, r6, r7, r8, r9, r10, r11, r12, List.nil_append, List.append_nil, List.cons_append] at hst
  refine RunL.slots (sl := [(2, .pointer (some ⟨_, _, none⟩)), (5, .pointer (some ⟨_, _, none⟩)), (6, .pointer (some ⟨_, _, none⟩)), (27, .agg #[.int .u16 _, str _, .bool _, .bool _, str _, str _, .int .i64 _, .int .u8 _])]) ⟨(hs4 2 rfl).trans rfl, (hs4 5 rfl).trans rfl, h6_, h27_, trivial⟩ ?_
  clear hs4 hd5 hr7 tab2
  refine RunL.cons (Op1.store (v := .agg #[.int .u16 _, str _, .bool _, .bool _, str _, str _, .int .i64 _, .int .u8 _]) hst ty38 rfl rfl rfl rfl rfl (.here) (by repeat (first | exact Put.nil | apply Put.put | apply Put.skip)) fun w hst => ?_)
  refine RunL.nil ?_
  refine Run.forget [(2, .pointer (some ⟨_, _, none⟩)), (5, .pointer (some ⟨_, _, none⟩)), (6, .pointer (some ⟨_, _, none⟩))] ⟨rfl, rfl, rfl, trivial⟩ (fun f => ?_)
  refine run_seq ?_
  refine run_seq ?_
  refine run_region ?_
  refine RunL.cons (Op1.indexArr ty64 ty9 rfl rfl (by decide) (by decide) ?_)
  refine RunL.cons (Op1.load1 (v := str _) ty9 rfl rfl (hst.cellL (.tail _ (.head _)) rfl) ?_)
  refine RunL.cons (Op1.rangeS hst ty9 rfl fun w it30 hst => ?_)
  refine RunL.nil ?_
  refine run_block ?_
  refine run_loop ?_
  refine Run.indW [(2, .pointer (some ⟨_, _, none⟩)), (5, .pointer (some ⟨_, _, none⟩)), (6, .pointer (some ⟨_, _, none⟩)), (30, .pointer (some ⟨_, 0, none⟩))] ⟨rfl, rfl, rfl, rfl, trivial⟩ (fun (i : Nat) => []) (fun (i : Nat) => [Res.iter it30 fd1 i, Res.row b6 38 [.int .u16 op, str fd0, .bool ((fd1.take i).contains 84), .bool ((fd1.take i).contains 82), str fd2, str fd3, .int .i64 0, .int .u8 (subU8 (fd5.getD 0 0) 48)]]) (fun (i : Nat) => i ≤ fd1.length) (fun (i : Nat) => fd1.length - i) (0) hst (Nat.zero_le _) trivial ?_
  intro i f w hst hJ ih8
  refine run_seq ?_
  refine run_region ?_
  rcases Nat.lt_or_ge i fd1.length with g9 | g9
  · skip
    have hc := hasc _ (List.getElem_mem g9)
    refine RunL.cons (Op1.nextS hst rfl (.here) (List.getElem?_eq_getElem g9) (hc) fun w hst => ?_)
    refine RunL.cons (Op1.extract (v := .bool _) rfl rfl ?_)
    refine RunL.nil ?_
    refine run_seq ?_
    refine run_cond_true (congrArg Value.bool (rfl : true = _)) ?_
    refine run_skip ?_
    refine run_block ?_
    refine run_seq ?_
    refine run_region ?_
    refine RunL.cons (Op1.extract (v := .int .i32 _) rfl rfl ?_)
    refine RunL.cons (Op1.assign (v := .int .i32 _) rfl ?_)
    refine RunL.nil ?_
    refine run_seq ?_
    refine run_region ?_
    refine RunL.cons (Op1.fieldAddr fld38_2 rfl ?_)
    refine RunL.cons (Op1.load1 (v := .bool _) ty4 rfl rfl (hst.cellL (.tail _ (.head _)) rfl) ?_)
    refine RunL.cons (Op1.move (v := .bool _) rfl ?_)
    refine RunL.split (d := 36) rfl (fun g10 => ?_) (fun g10 => ?_)
    · skip
      refine RunL.omit (t := 36) rfl (congrArg Value.bool g10) rfl ?_
      refine RunL.omit (t := 36) rfl (congrArg Value.bool g10) rfl ?_
      refine RunL.cons (Op1.pickT (u := .bool _) (congrArg Value.bool g10) rfl ?_)
      refine RunL.cons (Op1.fieldAddr fld38_2 rfl ?_)
      refine RunL.cons (Op1.store (v := .bool _) hst ty4 rfl rfl rfl rfl rfl (.there (.here)) (by repeat (first | exact Put.nil | apply Put.put | apply Put.skip)) fun w hst => ?_)
      refine RunL.nil ?_
      refine run_region ?_
      refine RunL.cons (Op1.fieldAddr fld38_3 rfl ?_)
      refine RunL.cons (Op1.load1 (v := .bool _) ty4 rfl rfl (hst.cellL (.tail _ (.head _)) rfl) ?_)
      refine RunL.cons (Op1.move (v := .bool _) rfl ?_)
      refine RunL.split (d := 43) rfl (fun g11 => ?_) (fun g11 => ?_)
      · skip
        refine RunL.omit (t := 43) rfl (congrArg Value.bool g11) rfl ?_
        refine RunL.omit (t := 43) rfl (congrArg Value.bool g11) rfl ?_
        refine RunL.cons (Op1.pickT (u := .bool _) (congrArg Value.bool g11) rfl ?_)
        refine RunL.cons (Op1.fieldAddr fld38_3 rfl ?_)
        refine RunL.cons (Op1.store (v := .bool _) hst ty4 rfl rfl rfl rfl rfl (.there (.here)) (by repeat (first | exact Put.nil | apply Put.put | apply Put.skip)) fun w hst => ?_)
        refine RunL.nil ?_
        refine run_inBlock ?_
        refine run_inLoop ?_
        exact ih8 (i + 1) _ w (by omega) (by (try dsimp only); rw [has_step 84 (m := 84) rfl g9, has_step 82 (m := 82) rfl g9]; simp only [g10, g11, Bool.true_or, Bool.false_or]; exact hst) (by omega) ⟨rfl, rfl, rfl, rfl, trivial⟩ trivial
      refine RunL.take (t := 43) rfl (congrArg Value.bool g11) (Op1.move (v := .int .i32 _) rfl ?_)
      refine RunL.take (t := 43) rfl (congrArg Value.bool g11) (Op1.eql rfl rfl ?_)
      refine RunL.cons (Op1.pickF (u := .bool _) (congrArg Value.bool g11) rfl ?_)
      refine RunL.cons (Op1.fieldAddr fld38_3 rfl ?_)
      refine RunL.cons (Op1.store (v := .bool _) hst ty4 rfl rfl rfl rfl rfl (.there (.here)) (by repeat (first | exact Put.nil | apply Put.put | apply Put.skip)) fun w hst => ?_)
      refine RunL.nil ?_
      refine run_inBlock ?_
      refine run_inLoop ?_
      exact ih8 (i + 1) _ w (by omega) (by (try dsimp only); rw [has_step 84 (m := 84) rfl g9, has_step 82 (m := 82) rfl g9]; simp only [g10, g11, Bool.true_or, Bool.false_or]; exact hst) (by omega) ⟨rfl, rfl, rfl, rfl, trivial⟩ trivial
    refine RunL.take (t := 36) rfl (congrArg Value.bool g10) (Op1.move (v := .int .i32 _) rfl ?_)
    refine RunL.take (t := 36) rfl (congrArg Value.bool g10) (Op1.eql rfl rfl ?_)
    refine RunL.cons (Op1.pickF (u := .bool _) (congrArg Value.bool g10) rfl ?_)
    refine RunL.cons (Op1.fieldAddr fld38_2 rfl ?_)
    refine RunL.cons (Op1.store (v := .bool _) hst ty4 rfl rfl rfl rfl rfl (.there (.here)) (by repeat (first | exact Put.nil | apply Put.put | apply Put.skip)) fun w hst => ?_)
    refine RunL.nil ?_
    refine run_region ?_
    refine RunL.cons (Op1.fieldAddr fld38_3 rfl ?_)
    refine RunL.cons (Op1.load1 (v := .bool _) ty4 rfl rfl (hst.cellL (.tail _ (.head _)) rfl) ?_)
    refine RunL.cons (Op1.move (v := .bool _) rfl ?_)
    refine RunL.split (d := 43) rfl (fun g12 => ?_) (fun g12 => ?_)
    · skip
      refine RunL.omit (t := 43) rfl (congrArg Value.bool g12) rfl ?_
      refine RunL.omit (t := 43) rfl (congrArg Value.bool g12) rfl ?_
      refine RunL.cons (Op1.pickT (u := .bool _) (congrArg Value.bool g12) rfl ?_)
      refine RunL.cons (Op1.fieldAddr fld38_3 rfl ?_)
      refine RunL.cons (Op1.store (v := .bool _) hst ty4 rfl rfl rfl rfl rfl (.there (.here)) (by repeat (first | exact Put.nil | apply Put.put | apply Put.skip)) fun w hst => ?_)
      refine RunL.nil ?_
      refine run_inBlock ?_
      refine run_inLoop ?_
      exact ih8 (i + 1) _ w (by omega) (by (try dsimp only); rw [has_step 84 (m := 84) rfl g9, has_step 82 (m := 82) rfl g9]; simp only [g10, g12, Bool.true_or, Bool.false_or]; exact hst) (by omega) ⟨rfl, rfl, rfl, rfl, trivial⟩ trivial
    refine RunL.take (t := 43) rfl (congrArg Value.bool g12) (Op1.move (v := .int .i32 _) rfl ?_)
    refine RunL.take (t := 43) rfl (congrArg Value.bool g12) (Op1.eql rfl rfl ?_)
    refine RunL.cons (Op1.pickF (u := .bool _) (congrArg Value.bool g12) rfl ?_)
    refine RunL.cons (Op1.fieldAddr fld38_3 rfl ?_)
    refine RunL.cons (Op1.store (v := .bool _) hst ty4 rfl rfl rfl rfl rfl (.there (.here)) (by repeat (first | exact Put.nil | apply Put.put | apply Put.skip)) fun w hst => ?_)
    refine RunL.nil ?_
    refine run_inBlock ?_
    refine run_inLoop ?_
    exact ih8 (i + 1) _ w (by omega) (by (try dsimp only); rw [has_step 84 (m := 84) rfl g9, has_step 82 (m := 82) rfl g9]; simp only [g10, g12, Bool.true_or, Bool.false_or]; exact hst) (by omega) ⟨rfl, rfl, rfl, rfl, trivial⟩ trivial
  obtain rfl : i = fd1.length := by omega
  rw [List.take_length] at hst
  refine RunL.cons (Op1.nextE hst rfl (.head _) g9 ?_)
  refine RunL.cons (Op1.extract (v := .bool _) rfl rfl ?_)
  refine RunL.nil ?_
  refine run_seq ?_
  refine run_cond_false (congrArg Value.bool (rfl : false = _)) ?_
  refine run_exit (id := 0) rfl ?_
  refine run_seq ?_
  refine run_seq ?_
  refine run_region ?_
  refine RunL.cons (Op1.indexArr ty64 ty9 rfl rfl (by decide) (by decide) ?_)
  refine RunL.cons (Op1.load1 (v := str _) ty9 rfl rfl (hst.cellL (.tail _ (.tail _ (.head _))) rfl) ?_)
  refine RunL.cons (Op1.neqS rfl rfl ?_)
  refine RunL.nil ?_
  refine run_cond_dec rfl (fun g13 => ?_) (fun g13 => ?_)
  · skip
    have hf4 : 0 < fd4.length := List.length_pos_iff.2 g13
    have hwb := u8wrap_bd ((((fd4.getD (0 : Int).toNat 0).toNat : Nat) : Int) - 48)
    refine run_region ?_
    refine RunL.cons (Op1.indexArr ty64 ty9 rfl rfl (by decide) (by decide) ?_)
    refine RunL.cons (Op1.load1 (v := str _) ty9 rfl rfl (hst.cellL (.tail _ (.tail _ (.head _))) rfl) ?_)
    refine RunL.cons (Op1.indexS ty9 rfl rfl (by omega) (by omega) ?_)
    refine RunL.cons (Op1.sub rfl rfl ?_)
    first | refine RunL.cons (Op1.convN ty5 ty3 rfl (wrap_i64 (by omega) (by omega)) ?_) | refine RunL.cons (Op1.conv ty5 ty3 rfl ?_)
    refine RunL.cons (Op1.fieldAddr fld38_6 rfl ?_)
    refine RunL.cons (Op1.store (v := .int .i64 _) hst ty3 rfl rfl rfl rfl rfl (.there (.here)) (by repeat (first | exact Put.nil | apply Put.put | apply Put.skip)) fun w hst => ?_)
    refine RunL.nil ?_
    refine run_seq ?_
    refine run_region ?_
    refine RunL.cons (Op1.loadA (vs := [.int .u16 _, str _, .bool _, .bool _, str _, str _, .int .i64 _, .int .u8 _]) ty38 rfl rfl rfl (cells_of_obj (n := 8) (hst.objL (.tail _ (.head _))) _ rfl) ?_)
    refine RunL.cons (Op1.store (v := .agg #[.int .u16 _, str _, .bool _, .bool _, str _, str _, .int .i64 _, .int .u8 _]) hst ty38 rfl rfl rfl rfl rfl (.there (.there (.there (.here)))) (by repeat (first | exact Put.nil | apply Put.put | apply Put.skip)) fun w hst => ?_)
    refine RunL.cons (Op1.assign (v := .bool _) rfl ?_)
    refine RunL.nil ?_
    refine run_ret2 Try.func19 rfl (RV.cellA (vs := [.int .u16 _, str _, .bool _, .bool _, str _, str _, .int .i64 _, .int .u8 _]) rfl ty38 rfl rfl (cells_of_obj (n := 8) (hst.objL (.tail _ (.tail _ (.tail _ (.head _))))) _ rfl)) (RV.tmp (v := .bool _) rfl) ?_
    rw [← (rowS_all h0).2]
    have e : ofS op = some (FormL.mk op fd0 (fd1.contains 84) (fd1.contains 82) fd2 fd3 (subU8 (fd4.getD 0 0) 48) (subU8 (fd5.getD 0 0) 48)) := by
      unfold ofS
      rw [if_neg hemp, hf]
      show some (FormL.mk op fd0 (fd1.contains 84) (fd1.contains 82) fd2 fd3 (if fd4 = [] then 0 else subU8 (fd4.getD 0 0) 48) (subU8 (fd5.getD 0 0) 48)) = _
      rw [if_neg g13]
    rw [e]
    exact ⟨rfl, hst.pure⟩
  refine run_skip ?_
  refine run_seq ?_
  refine run_region ?_
  refine RunL.cons (Op1.loadA (vs := [.int .u16 _, str _, .bool _, .bool _, str _, str _, .int .i64 _, .int .u8 _]) ty38 rfl rfl rfl (cells_of_obj (n := 8) (hst.objL (.tail _ (.head _))) _ rfl) ?_)
  refine RunL.cons (Op1.store (v := .agg #[.int .u16 _, str _, .bool _, .bool _, str _, str _, .int .i64 _, .int .u8 _]) hst ty38 rfl rfl rfl rfl rfl (.there (.there (.there (.here)))) (by repeat (first | exact Put.nil | apply Put.put | apply Put.skip)) fun w hst => ?_)
  refine RunL.cons (Op1.assign (v := .bool _) rfl ?_)
  refine RunL.nil ?_
  refine run_ret2 Try.func19 rfl (RV.cellA (vs := [.int .u16 _, str _, .bool _, .bool _, str _, str _, .int .i64 _, .int .u8 _]) rfl ty38 rfl rfl (cells_of_obj (n := 8) (hst.objL (.tail _ (.tail _ (.tail _ (.head _))))) _ rfl)) (RV.tmp (v := .bool _) rfl) ?_
  rw [← (rowS_all h0).2]
  have e : ofS op = some (FormL.mk op fd0 (fd1.contains 84) (fd1.contains 82) fd2 fd3 0 (subU8 (fd5.getD 0 0) 48)) := by
    unfold ofS
    rw [if_neg hemp, hf]
    show some (FormL.mk op fd0 (fd1.contains 84) (fd1.contains 82) fd2 fd3 (if fd4 = [] then 0 else subU8 (fd4.getD 0 0) 48) (subU8 (fd5.getD 0 0) 48)) = _
    rw [if_pos (Classical.not_not.1 g13)]
  rw [e]
  exact ⟨rfl, hst.pure⟩

theorem R2law_GrammarForms (op : Int) (h0 : 0 ≤ op) (w : World) : Ret Try.prog 5 #[.int .u16 op] w (fun v w' => v = .bool true ∧ St w NoM [] [] w') := by
  refine Ret.enter (args := [.int .u16 op]) Try.func5 rfl rfl rfl ?_
  have hst := St.init w
  refine run_seq ?_
  refine run_region ?_
  refine RunL.cons (Op1.assign (v := .bool _) rfl ?_)
  refine RunL.nil ?_
  refine run_seq ?_
  refine run_region ?_
  refine RunL.cons (Op1.move (v := .int .u16 _) rfl ?_)
  refine RunL.cons (Op1.call1 (v1 := .int .u16 _) ent18 rfl rfl ((R2ref_Of _ _).mono fun v w hp => ?_))
  obtain ⟨rfl, hp⟩ := hp
  replace hst := hst.keepc hp
  clear hp
  refine RunL.cons (Op1.move (v := .tuple #[.agg #[.int .u16 _, str _, .bool _, .bool _, str _, str _, .int .i64 _, .int .u8 _], .bool _]) rfl ?_)
  refine RunL.cons (Op1.extract (v := .agg #[.int .u16 _, str _, .bool _, .bool _, str _, str _, .int .i64 _, .int .u8 _]) rfl rfl ?_)
  refine RunL.cons (Op1.extract (v := .bool _) rfl rfl ?_)
  refine RunL.cons (Op1.alloc hst ty38 fun w b3 hst => ?_)
  refine RunL.cons (Op1.store (v := .agg #[.int .u16 _, str _, .bool _, .bool _, str _, str _, .int .i64 _, .int .u8 _]) hst ty38 rfl rfl rfl rfl rfl (.here) (by repeat (first | exact Put.nil | apply Put.put | apply Put.skip)) fun w hst => ?_)
  refine RunL.cons (Op1.assign (v := .bool _) rfl ?_)
  refine RunL.nil ?_
  refine run_seq ?_
  refine run_region ?_
  refine RunL.cons (Op1.move (v := .int .u16 _) rfl ?_)
  refine RunL.cons (Op1.call1 (v1 := .int .u16 _) ent19 rfl rfl ((R2gr_Of _ (by omega) _).mono fun v w hp => ?_))
  obtain ⟨rfl, hp⟩ := hp
  replace hst := hst.keepc hp
  clear hp
  refine RunL.cons (Op1.move (v := .tuple #[.agg #[.int .u16 _, str _, .bool _, .bool _, str _, str _, .int .i64 _, .int .u8 _], .bool _]) rfl ?_)
  refine RunL.cons (Op1.extract (v := .agg #[.int .u16 _, str _, .bool _, .bool _, str _, str _, .int .i64 _, .int .u8 _]) rfl rfl ?_)
  refine RunL.cons (Op1.extract (v := .bool _) rfl rfl ?_)
  refine RunL.cons (Op1.alloc hst ty38 fun w b5 hst => ?_)
  refine RunL.cons (Op1.store (v := .agg #[.int .u16 _, str _, .bool _, .bool _, str _, str _, .int .i64 _, .int .u8 _]) hst ty38 rfl rfl rfl rfl rfl (.here) (by repeat (first | exact Put.nil | apply Put.put | apply Put.skip)) fun w hst => ?_)
  refine RunL.cons (Op1.assign (v := .bool _) rfl ?_)
  refine RunL.nil ?_
  refine run_seq ?_
  refine run_region ?_
  refine RunL.cons (Op1.loadA (vs := [.int .u16 _, str _, .bool _, .bool _, str _, str _, .int .i64 _, .int .u8 _]) ty38 rfl rfl rfl (cells_of_obj (n := 8) (hst.objL (.head _)) _ rfl) ?_)
  refine RunL.cons (Op1.loadA (vs := [.int .u16 _, str _, .bool _, .bool _, str _, str _, .int .i64 _, .int .u8 _]) ty38 rfl rfl rfl (cells_of_obj (n := 8) (hst.objL (.tail _ (.head _))) _ rfl) ?_)
  refine RunL.cons (Op1.eqlA (xs := [.int .u16 _, str _, .bool _, .bool _, str _, str _, .int .i64 _, .int .u8 _]) (ys := [.int .u16 _, str _, .bool _, .bool _, str _, str _, .int .i64 _, .int .u8 _]) rfl rfl (by kernel_rfl) (EqOk.struct Try.underlying38 (by kernel_rfl) (.cons (by decide) (PartOk.one ty36 rfl rfl) (PartOk.one ty36 rfl rfl) (EqOk.int ty36) (.cons (by decide) (PartOk.one ty9 rfl rfl) (PartOk.one ty9 rfl rfl) (EqOk.str ty9) (.cons (by decide) (PartOk.one ty4 rfl rfl) (PartOk.one ty4 rfl rfl) (EqOk.bool ty4) (.cons (by decide) (PartOk.one ty4 rfl rfl) (PartOk.one ty4 rfl rfl) (EqOk.bool ty4) (.cons (by decide) (PartOk.one ty9 rfl rfl) (PartOk.one ty9 rfl rfl) (EqOk.str ty9) (.cons (by decide) (PartOk.one ty9 rfl rfl) (PartOk.one ty9 rfl rfl) (EqOk.str ty9) (.cons (by decide) (PartOk.one ty3 rfl rfl) (PartOk.one ty3 rfl rfl) (EqOk.int ty3) (.cons (by decide) (PartOk.one ty5 rfl rfl) (PartOk.one ty5 rfl rfl) (EqOk.int ty5) .nil))))))))) ?_)
  refine RunL.cons (Op1.move (v := .bool _) rfl ?_)
  refine RunL.split (d := 20) rfl (fun g1 => ?_) (fun g1 => ?_)
  · skip
    refine RunL.take (t := 20) rfl (congrArg Value.bool g1) (Op1.move (v := .bool _) rfl ?_)
    refine RunL.take (t := 20) rfl (congrArg Value.bool g1) (Op1.move (v := .bool _) rfl ?_)
    refine RunL.take (t := 20) rfl (congrArg Value.bool g1) (Op1.eqlB ty4 rfl rfl ?_)
    refine RunL.cons (Op1.pickT (u := .bool _) (congrArg Value.bool g1) rfl ?_)
    refine RunL.cons (Op1.assign (v := .bool _) rfl ?_)
    refine RunL.nil ?_
    refine run_ret1 Try.func5 rfl (RV.tmp (v := .bool _) rfl) ?_
    exact ⟨by simp, hst.pure⟩
  exfalso
  simp at g1

end Go.SK
