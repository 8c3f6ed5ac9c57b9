/-
  The walks of the functions of edge, cover and of their references, and of the laws over them.
-/
import Derived.Test.YtnbapjkldjhjoaaSkFacts1
import Derived.Test.YtnbapjkldjhjoaaSkFacts2
import Derived.Test.YtnbapjkldjhjoaaSkCoverH
import Derived.Test.YtnbapjkldjhjoaaSkCoverQ
set_option linter.unusedVariables false
set_option linter.unusedSimpArgs false
namespace Go.SK
open Go Go.Proofs
open Go.RowKit
set_option maxHeartbeats 1000000 in
theorem law_CoverTurned (ax ay az bx by_ bz cx cy cz : Int) (wd ht more : Int) (w : World) : Ret Try.prog 15 #[.agg #[.int .i32 ax, .int .i32 ay, .int .i32 az, .int .i32 bx, .int .i32 by_, .int .i32 bz, .int .i32 cx, .int .i32 cy, .int .i32 cz], .int .i64 wd, .int .i64 ht, .int .i64 more] w (fun v w' => v = .bool true ∧ St w NoM [] [] w') := by
  refine Ret.enter (args := [.agg #[.int .i32 ax, .int .i32 ay, .int .i32 az, .int .i32 bx, .int .i32 by_, .int .i32 bz, .int .i32 cx, .int .i32 cy, .int .i32 cz], .int .i64 wd, .int .i64 ht, .int .i64 more]) Try.func15 rfl rfl rfl ?_
  have hst := St.init w
  obtain ⟨l, hl⟩ : ∃ l, covRows (clampZ ax) (clampZ ay) (clampZ bx) (clampZ by_) (clampZ cx) (clampZ cy) wd ht = l := ⟨_, rfl⟩
  have hbd := covRows_bd (clampZ ax) (clampZ ay) (clampZ bx) (clampZ by_) (clampZ cx) (clampZ cy) wd ht
  rw [hl] at hbd
  have hbd1 := hbd.1
  obtain ⟨c, hc⟩ : ∃ c, covRows (clampZ ax) (clampZ ay) (clampZ bx) (clampZ by_) (clampZ cx) (clampZ cy) (wd + more) (ht + more) = c := ⟨_, rfl⟩
  have hcd := covRows_bd (clampZ ax) (clampZ ay) (clampZ bx) (clampZ by_) (clampZ cx) (clampZ cy) (wd + more) (ht + more)
  rw [hc] at hcd
  have hcd1 := hcd.1
  refine run_seq ?_
  refine run_region ?_
  refine RunL.cons (Op1.box (v := .agg #[.int .i32 _, .int .i32 _, .int .i32 _, .int .i32 _, .int .i32 _, .int .i32 _, .int .i32 _, .int .i32 _, .int .i32 _]) hst rfl rfl fun w b4 hst => ?_)
  refine RunL.cons (Op1.assign (v := .bool _) rfl ?_)
  refine RunL.nil ?_
  refine run_seq ?_
  refine run_region ?_
  refine RunL.cons (Op1.loadA (vs := [.int .i32 _, .int .i32 _, .int .i32 _, .int .i32 _, .int .i32 _, .int .i32 _, .int .i32 _, .int .i32 _, .int .i32 _]) ty27 rfl rfl rfl (cells_of_obj (n := 9) (hst.objL (.head _)) _ rfl) ?_)
  refine RunL.cons (Op1.move (v := .int .i64 _) rfl ?_)
  refine RunL.cons (Op1.move (v := .int .i64 _) rfl ?_)
  refine RunL.cons (Op1.call3 (v1 := .agg #[.int .i32 _, .int .i32 _, .int .i32 _, .int .i32 _, .int .i32 _, .int .i32 _, .int .i32 _, .int .i32 _, .int .i32 _]) (v2 := .int .i64 _) (v3 := .int .i64 _) ent42 rfl rfl rfl rfl ((cov_Rows2 _ _ _ _ _ _ _ _ _ _ _ _ hl).mono fun v w hp => ?_))
  obtain ⟨ao1, cp1, rfl, hp⟩ := hp
  replace hst := hst.call0 hp
  clear hp
  refine RunL.cons (Op1.move (v := .tuple #[.slice _ _ _, .int .i64 _]) rfl ?_)
  refine RunL.cons (Op1.extract (v := .slice _ _ _) rfl rfl ?_)
  refine RunL.cons (Op1.extract (v := .int .i64 _) rfl rfl ?_)
  refine RunL.cons (Op1.assign (v := .slice _ _ _) rfl ?_)
  refine RunL.cons (Op1.assign (v := .int .i64 _) rfl ?_)
  refine RunL.nil ?_
  refine run_seq ?_
  refine run_region ?_
  refine RunL.cons (Op1.indexArr ty27 ty25 rfl rfl (by decide) (by decide) ?_)
  refine RunL.cons (Op1.loadA (vs := [.int .i32 _, .int .i32 _, .int .i32 _]) ty25 rfl rfl rfl (cells_of_obj (n := 3) (hst.objL (.tail _ (.head _))) _ rfl) ?_)
  refine RunL.cons (Op1.indexArr ty27 ty25 rfl rfl (by decide) (by decide) ?_)
  refine RunL.cons (Op1.loadA (vs := [.int .i32 _, .int .i32 _, .int .i32 _]) ty25 rfl rfl rfl (cells_of_obj (n := 3) (hst.objL (.tail _ (.head _))) _ rfl) ?_)
  refine RunL.cons (Op1.indexArr ty27 ty25 rfl rfl (by decide) (by decide) ?_)
  refine RunL.cons (Op1.loadA (vs := [.int .i32 _, .int .i32 _, .int .i32 _]) ty25 rfl rfl rfl (cells_of_obj (n := 3) (hst.objL (.tail _ (.head _))) _ rfl) ?_)
  refine RunL.cons (Op1.buildArr ty27 ty25 (.cons rfl (v := .agg #[.int .i32 _, .int .i32 _, .int .i32 _]) rfl rfl rfl rfl (by repeat (first | exact Put.nil | apply Put.put | apply Put.skip)) (.cons rfl (v := .agg #[.int .i32 _, .int .i32 _, .int .i32 _]) rfl rfl rfl rfl (by repeat (first | exact Put.nil | apply Put.put | apply Put.skip)) (.cons rfl (v := .agg #[.int .i32 _, .int .i32 _, .int .i32 _]) rfl rfl rfl rfl (by repeat (first | exact Put.nil | apply Put.put | apply Put.skip)) .nil))) ?_)
  refine RunL.cons (Op1.move (v := .int .i64 _) rfl ?_)
  refine RunL.cons (Op1.move (v := .int .i64 _) rfl ?_)
  refine RunL.cons (Op1.call3 (v1 := .agg #[.int .i32 _, .int .i32 _, .int .i32 _, .int .i32 _, .int .i32 _, .int .i32 _, .int .i32 _, .int .i32 _, .int .i32 _]) (v2 := .int .i64 _) (v3 := .int .i64 _) ent42 rfl rfl rfl rfl ((cov_Rows2 _ _ _ _ _ _ _ _ _ _ _ _ ((covRows_turn _ _ _ _ _ _ _ _).trans hl)).mono fun v w hp => ?_))
  obtain ⟨ao2, cp2, rfl, hp⟩ := hp
  replace hst := hst.call0 hp
  clear hp
  refine RunL.cons (Op1.move (v := .tuple #[.slice _ _ _, .int .i64 _]) rfl ?_)
  refine RunL.cons (Op1.extract (v := .slice _ _ _) rfl rfl ?_)
  refine RunL.cons (Op1.extract (v := .int .i64 _) rfl rfl ?_)
  refine RunL.cons (Op1.assign (v := .slice _ _ _) rfl ?_)
  refine RunL.cons (Op1.assign (v := .int .i64 _) rfl ?_)
  refine RunL.nil ?_
  refine run_seq ?_
  refine run_region ?_
  refine RunL.cons (Op1.indexArr ty27 ty25 rfl rfl (by decide) (by decide) ?_)
  refine RunL.cons (Op1.loadA (vs := [.int .i32 _, .int .i32 _, .int .i32 _]) ty25 rfl rfl rfl (cells_of_obj (n := 3) (hst.objL (.tail _ (.tail _ (.head _)))) _ rfl) ?_)
  refine RunL.cons (Op1.indexArr ty27 ty25 rfl rfl (by decide) (by decide) ?_)
  refine RunL.cons (Op1.loadA (vs := [.int .i32 _, .int .i32 _, .int .i32 _]) ty25 rfl rfl rfl (cells_of_obj (n := 3) (hst.objL (.tail _ (.tail _ (.head _)))) _ rfl) ?_)
  refine RunL.cons (Op1.indexArr ty27 ty25 rfl rfl (by decide) (by decide) ?_)
  refine RunL.cons (Op1.loadA (vs := [.int .i32 _, .int .i32 _, .int .i32 _]) ty25 rfl rfl rfl (cells_of_obj (n := 3) (hst.objL (.tail _ (.tail _ (.head _)))) _ rfl) ?_)
  refine RunL.cons (Op1.buildArr ty27 ty25 (.cons rfl (v := .agg #[.int .i32 _, .int .i32 _, .int .i32 _]) rfl rfl rfl rfl (by repeat (first | exact Put.nil | apply Put.put | apply Put.skip)) (.cons rfl (v := .agg #[.int .i32 _, .int .i32 _, .int .i32 _]) rfl rfl rfl rfl (by repeat (first | exact Put.nil | apply Put.put | apply Put.skip)) (.cons rfl (v := .agg #[.int .i32 _, .int .i32 _, .int .i32 _]) rfl rfl rfl rfl (by repeat (first | exact Put.nil | apply Put.put | apply Put.skip)) .nil))) ?_)
  refine RunL.cons (Op1.move (v := .int .i64 _) rfl ?_)
  refine RunL.cons (Op1.move (v := .int .i64 _) rfl ?_)
  refine RunL.cons (Op1.call3 (v1 := .agg #[.int .i32 _, .int .i32 _, .int .i32 _, .int .i32 _, .int .i32 _, .int .i32 _, .int .i32 _, .int .i32 _, .int .i32 _]) (v2 := .int .i64 _) (v3 := .int .i64 _) ent42 rfl rfl rfl rfl ((cov_Rows2 _ _ _ _ _ _ _ _ _ _ _ _ ((covRows_flip _ _ _ _ _ _ _ _).trans hl)).mono fun v w hp => ?_))
  obtain ⟨ao3, cp3, rfl, hp⟩ := hp
  replace hst := hst.call0 hp
  clear hp
  refine RunL.cons (Op1.move (v := .tuple #[.slice _ _ _, .int .i64 _]) rfl ?_)
  refine RunL.cons (Op1.extract (v := .slice _ _ _) rfl rfl ?_)
  refine RunL.cons (Op1.extract (v := .int .i64 _) rfl rfl ?_)
  refine RunL.cons (Op1.assign (v := .slice _ _ _) rfl ?_)
  refine RunL.cons (Op1.assign (v := .int .i64 _) rfl ?_)
  refine RunL.nil ?_
  refine run_seq ?_
  refine run_seq ?_
  refine run_region ?_
  refine RunL.cons (Op1.move (v := .int .i64 _) rfl ?_)
  refine RunL.cons (Op1.move (v := .int .i64 _) rfl ?_)
  refine RunL.cons (Op1.neq rfl rfl ?_)
  refine RunL.cons (Op1.move (v := .bool _) rfl ?_)
  refine RunL.splitD (d := 56) rfl (fun g4 => ?_) (fun g4 => ?_)
  · skip
    exfalso
    exact g4 rfl
  · skip
    refine RunL.take (t := 56) rfl (congrArg Value.bool (decide_eq_false g4)) (Op1.move (v := .int .i64 _) rfl ?_)
    refine RunL.take (t := 56) rfl (congrArg Value.bool (decide_eq_false g4)) (Op1.move (v := .int .i64 _) rfl ?_)
    refine RunL.take (t := 56) rfl (congrArg Value.bool (decide_eq_false g4)) (Op1.neq rfl rfl ?_)
    refine RunL.cons (Op1.pickF (u := .bool _) (congrArg Value.bool (decide_eq_false g4)) rfl ?_)
    refine RunL.cons (Op1.move (v := .bool _) rfl ?_)
    refine RunL.splitD (d := 61) rfl (fun g5 => ?_) (fun g5 => ?_)
    · skip
      exfalso
      exact g5 rfl
    · skip
      refine RunL.take (t := 61) rfl (congrArg Value.bool (decide_eq_false g5)) (Op1.move (v := .slice _ _ _) rfl ?_)
      refine RunL.take (t := 61) rfl (congrArg Value.bool (decide_eq_false g5)) (Op1.move (v := .slice _ _ _) rfl ?_)
      refine RunL.take (t := 61) rfl (congrArg Value.bool (decide_eq_false g5)) (Op1.call2 (v1 := .slice _ _ _) (v2 := .slice _ _ _) ent43 rfl rfl rfl ((law28_rows _ _ _ _ _ _ _ (hst.hL _ (.tail _ (.head _))) (hst.hL _ (.tail _ (.tail _ (.head _)))) hbd1).mono fun v w hp => ?_))
      obtain ⟨rfl, hp⟩ := hp
      replace hst := hst.keepc hp
      clear hp
      refine RunL.take (t := 61) rfl (congrArg Value.bool (decide_eq_false g5)) (Op1.notD rfl ?_)
      refine RunL.cons (Op1.pickF (u := .bool _) (congrArg Value.bool (decide_eq_false g5)) rfl ?_)
      refine RunL.cons (Op1.move (v := .bool _) rfl ?_)
      refine RunL.splitD (d := 67) rfl (fun g6 => ?_) (fun g6 => ?_)
      · skip
        exfalso
        exact g6 rfl
      · skip
        refine RunL.take (t := 67) rfl (congrArg Value.bool (decide_eq_false g6)) (Op1.move (v := .slice _ _ _) rfl ?_)
        refine RunL.take (t := 67) rfl (congrArg Value.bool (decide_eq_false g6)) (Op1.move (v := .slice _ _ _) rfl ?_)
        refine RunL.take (t := 67) rfl (congrArg Value.bool (decide_eq_false g6)) (Op1.call2 (v1 := .slice _ _ _) (v2 := .slice _ _ _) ent43 rfl rfl rfl ((law28_rows _ _ _ _ _ _ _ (hst.hL _ (.head _)) (hst.hL _ (.tail _ (.tail _ (.head _)))) hbd1).mono fun v w hp => ?_))
        obtain ⟨rfl, hp⟩ := hp
        replace hst := hst.keepc hp
        clear hp
        refine RunL.take (t := 67) rfl (congrArg Value.bool (decide_eq_false g6)) (Op1.notD rfl ?_)
        refine RunL.cons (Op1.pickF (u := .bool _) (congrArg Value.bool (decide_eq_false g6)) rfl ?_)
        refine RunL.nil ?_
        refine run_cond_dec rfl (fun g7 => ?_) (fun g7 => ?_)
        · skip
          exfalso
          exact g7 rfl
        · skip
          refine run_skip ?_
          refine run_seq ?_
          refine Run.cutC hst [1, 2, 3, 4, 9] ((1 ≤ more ∧ more ≤ 1024) ∧ Pic wd ht ∧ Pic (wd + more) (ht + more)) (fun f w kf10 hst hJ9 => ?_) (fun cut8 => ?_)
          · skip
            refine Run.slots (sl := [(1, .int .i64 _), (2, .int .i64 _), (3, .int .i64 _), (4, .pointer (some ⟨_, _, none⟩)), (9, .slice _ _ _)]) ⟨(kf10.get 1 rfl).trans rfl, (kf10.get 2 rfl).trans rfl, (kf10.get 3 rfl).trans rfl, (kf10.get 4 rfl).trans rfl, (kf10.get 9 rfl).trans rfl, trivial⟩ ?_
            refine run_seq ?_
            refine run_region ?_
            refine RunL.cons (Op1.loadA (vs := [.int .i32 _, .int .i32 _, .int .i32 _, .int .i32 _, .int .i32 _, .int .i32 _, .int .i32 _, .int .i32 _, .int .i32 _]) ty27 rfl rfl rfl (cells_of_obj (n := 9) (hst.objL (.tail _ (.tail _ (.tail _ (.head _))))) _ rfl) ?_)
            refine RunL.cons (Op1.move (v := .int .i64 _) rfl ?_)
            refine RunL.cons (Op1.move (v := .int .i64 _) rfl ?_)
            refine RunL.cons (Op1.addN rfl rfl rfl (wrap_i64 (by omega) (by omega)) ?_)
            refine RunL.cons (Op1.move (v := .int .i64 _) rfl ?_)
            refine RunL.cons (Op1.move (v := .int .i64 _) rfl ?_)
            refine RunL.cons (Op1.addN rfl rfl rfl (wrap_i64 (by omega) (by omega)) ?_)
            refine RunL.cons (Op1.call3 (v1 := .agg #[.int .i32 _, .int .i32 _, .int .i32 _, .int .i32 _, .int .i32 _, .int .i32 _, .int .i32 _, .int .i32 _, .int .i32 _]) (v2 := .int .i64 _) (v3 := .int .i64 _) ent42 rfl rfl rfl rfl ((cov_Rows2 _ _ _ _ _ _ _ _ _ _ _ _ hc).mono fun v w hp => ?_))
            obtain ⟨ao11, cp11, rfl, hp⟩ := hp
            replace hst := hst.call0 hp
            clear hp
            refine RunL.cons (Op1.move (v := .tuple #[.slice _ _ _, .int .i64 _]) rfl ?_)
            refine RunL.cons (Op1.extract (v := .slice _ _ _) rfl rfl ?_)
            refine RunL.cons (Op1.extract (v := .int .i64 _) rfl rfl ?_)
            refine RunL.cons (Op1.assign (v := .slice _ _ _) rfl ?_)
            refine RunL.cons (Op1.assign (v := .int .i64 _) rfl ?_)
            refine RunL.nil ?_
            refine run_seq ?_
            refine run_seq ?_
            refine run_region ?_
            refine RunL.cons (Op1.move (v := .int .i64 _) rfl ?_)
            refine RunL.cons (Op1.neq rfl rfl ?_)
            refine RunL.nil ?_
            refine run_cond_dec rfl (fun g12 => ?_) (fun g12 => ?_)
            · skip
              exfalso
              exact g12 ((errZ_pic _ _).2 (by omega))
            · skip
              have hcl := clip_rows (ax := clampZ ax) (ay := clampZ ay) (bx := clampZ bx) (by_ := clampZ by_) (cx := clampZ cx) (cy := clampZ cy) (W := wd) (H := ht) (W2 := wd + more) (H2 := ht + more) (by omega) (by omega) (by omega) (by omega)
              rw [hc, hl] at hcl
              refine run_skip ?_
              refine run_seq ?_
              refine run_region ?_
              refine RunL.cons (Op1.assign (v := .int .i64 _) rfl ?_)
              refine RunL.nil ?_
              refine run_seq ?_
              refine run_seq ?_
              refine run_region ?_
              refine RunL.cons (Op1.assign (v := .int .i64 _) rfl ?_)
              refine RunL.nil ?_
              refine run_block ?_
              refine run_loop ?_
              have sta13 := hst.static (L1 := [])
              replace hst := hst.toD (L1 := [])
              refine Run.indS (fun (i : Nat) => [(17, .int .i64 (clipN wd ht c i : Int)), (18, .int .i64 (i : Int))]) [1, 2, 9, 15] (fun (i : Nat) => []) (fun (i : Nat) => i ≤ c.length) (fun (i : Nat) => c.length - i) 0 hst (Nat.zero_le _) ⟨rfl, rfl, trivial⟩ (Keep.refl _ _) ?_
              intro i f w kf14 hst hJ ih15
              replace hst := hst.back sta13
              refine Run.slots (sl := [(1, .int .i64 _), (2, .int .i64 _), (9, .slice _ _ _), (15, .slice _ _ _)]) ⟨(kf14.get 1 rfl).trans rfl, (kf14.get 2 rfl).trans rfl, (kf14.get 9 rfl).trans rfl, (kf14.get 15 rfl).trans rfl, trivial⟩ ?_
              refine run_seq ?_
              refine run_seq ?_
              refine run_region ?_
              refine RunL.cons (Op1.move (v := .int .i64 _) rfl ?_)
              refine RunL.cons (Op1.move (v := .slice _ _ _) rfl ?_)
              refine RunL.cons (Op1.lenSl (rest := []) ty50 rfl ?_)
              refine RunL.cons (Op1.lss rfl rfl ?_)
              refine RunL.nil ?_
              refine run_cond_dec rfl (fun g16 => ?_) (fun g16 => ?_)
              · skip
                have hcn := clipN_le wd ht c i
                refine run_skip ?_
                refine run_seq ?_
                refine run_block ?_
                refine run_seq ?_
                refine run_seq ?_
                refine run_region ?_
                refine RunL.cons (Op1.move (v := .slice _ _ _) rfl ?_)
                refine RunL.cons (Op1.move (v := .int .i64 _) rfl ?_)
                obtain ⟨bs17, rfl⟩ := Res.sl_some (hst.hL _ (.head _)) (by omega)
                refine RunL.cons (Op1.indexSl ty50 ty56 rfl rfl (by omega) (by omega) ?_)
                refine RunL.cons (Op1.fieldAddr fld56_0 rfl ?_)
                refine RunL.cons (Op1.load1 (v := .int .i64 _) ty3 rfl rfl (Res.sl_cell (hst.hL _ (.head _)) (flat_cell (g := rowC) (d := (0, 0, 0)) rowC_len rfl (by omega))) ?_)
                refine RunL.cons (Op1.move (v := .int .i64 _) rfl ?_)
                refine RunL.cons (Op1.geq rfl rfl ?_)
                refine RunL.cons (Op1.move (v := .bool _) rfl ?_)
                refine RunL.splitD (d := 122) rfl (fun g18 => ?_) (fun g18 => ?_)
                · skip
                  refine RunL.omit (t := 122) rfl (congrArg Value.bool (decide_eq_true g18)) rfl ?_
                  refine RunL.omit (t := 122) rfl (congrArg Value.bool (decide_eq_true g18)) rfl ?_
                  refine RunL.omit (t := 122) rfl (congrArg Value.bool (decide_eq_true g18)) rfl ?_
                  refine RunL.omit (t := 122) rfl (congrArg Value.bool (decide_eq_true g18)) rfl ?_
                  refine RunL.omit (t := 122) rfl (congrArg Value.bool (decide_eq_true g18)) rfl ?_
                  refine RunL.omit (t := 122) rfl (congrArg Value.bool (decide_eq_true g18)) rfl ?_
                  refine RunL.omit (t := 122) rfl (congrArg Value.bool (decide_eq_true g18)) rfl ?_
                  refine RunL.cons (Op1.pickT (u := .bool _) (congrArg Value.bool (decide_eq_true g18)) rfl ?_)
                  refine RunL.nil ?_
                  refine run_cond_true (congrArg Value.bool (rfl : true = _)) ?_
                  refine run_exit (id := 1) rfl ?_
                  refine run_region ?_
                  refine RunL.cons (Op1.move (v := .int .i64 _) rfl ?_)
                  refine RunL.cons (Op1.addN rfl rfl rfl (wrap_i64 (by omega) (by omega)) ?_)
                  refine RunL.cons (Op1.assign (v := .int .i64 _) rfl ?_)
                  refine RunL.nil ?_
                  refine run_inLoop ?_
                  have hsk := clip_skip (W := wd) (H := ht) (c := c) (i := ((i : Int)).toNat) (by omega) (by unfold clipZ; exact if_pos (by omega))
                  have hsk1 : clipN wd ht c i = clipN wd ht c (i + 1) := hsk
                  replace hst := hst.toD (L1 := [])
                  exact ih15 (i + 1) _ w (by omega) hst (by omega) ⟨rfl, rfl, rfl, rfl, trivial⟩ ⟨(congrArg (fun n : Nat => Value.int .i64 (n : Int)) hsk1), (congrArg (Value.int .i64) (by omega)), trivial⟩
                · skip
                  refine RunL.take (t := 122) rfl (congrArg Value.bool (decide_eq_false g18)) (Op1.move (v := .slice _ _ _) rfl ?_)
                  refine RunL.take (t := 122) rfl (congrArg Value.bool (decide_eq_false g18)) (Op1.move (v := .int .i64 _) rfl ?_)
                  refine RunL.take (t := 122) rfl (congrArg Value.bool (decide_eq_false g18)) (Op1.indexSl ty50 ty56 rfl rfl (by omega) (by omega) ?_)
                  refine RunL.take (t := 122) rfl (congrArg Value.bool (decide_eq_false g18)) (Op1.fieldAddr fld56_1 rfl ?_)
                  refine RunL.take (t := 122) rfl (congrArg Value.bool (decide_eq_false g18)) (Op1.load1 (v := .int .i64 _) ty3 rfl rfl (Res.sl_cell (hst.hL _ (.head _)) (flat_cell (g := rowC) (d := (0, 0, 0)) rowC_len rfl (by omega))) ?_)
                  refine RunL.take (t := 122) rfl (congrArg Value.bool (decide_eq_false g18)) (Op1.move (v := .int .i64 _) rfl ?_)
                  refine RunL.take (t := 122) rfl (congrArg Value.bool (decide_eq_false g18)) (Op1.geq rfl rfl ?_)
                  refine RunL.cons (Op1.pickF (u := .bool _) (congrArg Value.bool (decide_eq_false g18)) rfl ?_)
                  refine RunL.nil ?_
                  refine run_cond_dec rfl (fun g19 => ?_) (fun g19 => ?_)
                  · skip
                    refine run_exit (id := 1) rfl ?_
                    refine run_region ?_
                    refine RunL.cons (Op1.move (v := .int .i64 _) rfl ?_)
                    refine RunL.cons (Op1.addN rfl rfl rfl (wrap_i64 (by omega) (by omega)) ?_)
                    refine RunL.cons (Op1.assign (v := .int .i64 _) rfl ?_)
                    refine RunL.nil ?_
                    refine run_inLoop ?_
                    have hsk := clip_skip (W := wd) (H := ht) (c := c) (i := ((i : Int)).toNat) (by omega) (by unfold clipZ; exact if_pos (by omega))
                    have hsk1 : clipN wd ht c i = clipN wd ht c (i + 1) := hsk
                    replace hst := hst.toD (L1 := [])
                    exact ih15 (i + 1) _ w (by omega) hst (by omega) ⟨rfl, rfl, rfl, rfl, trivial⟩ ⟨(congrArg (fun n : Nat => Value.int .i64 (n : Int)) hsk1), (congrArg (Value.int .i64) (by omega)), trivial⟩
                  · skip
                    refine run_skip ?_
                    refine run_seq ?_
                    refine run_region ?_
                    refine RunL.cons (Op1.move (v := .slice _ _ _) rfl ?_)
                    refine RunL.cons (Op1.move (v := .int .i64 _) rfl ?_)
                    refine RunL.cons (Op1.indexSl ty50 ty56 rfl rfl (by omega) (by omega) ?_)
                    refine RunL.cons (Op1.loadA (vs := [.int .i64 _, .int .i64 _, .int .i64 _]) ty56 rfl rfl rfl (Res.sl_cells (k := 3) (hst.hL _ (.head _)) _ (flat_seg (g := rowC) (d := (0, 0, 0)) rowC_len _ _ (by omega))) ?_)
                    refine RunL.cons (Op1.alloc hst ty56 fun w b19 hst => ?_)
                    refine RunL.cons (Op1.store (v := .agg #[.int .i64 _, .int .i64 _, .int .i64 _]) hst ty56 rfl rfl rfl rfl rfl (.here) (by repeat (first | exact Put.nil | apply Put.put | apply Put.skip)) fun w hst => ?_)
                    refine RunL.nil ?_
                    refine run_seq ?_
                    refine run_seq ?_
                    refine run_region ?_
                    refine RunL.cons (Op1.fieldAddr fld56_2 rfl ?_)
                    refine RunL.cons (Op1.load1 (v := .int .i64 _) ty3 rfl rfl (hst.cellL (.head _) rfl) ?_)
                    refine RunL.cons (Op1.move (v := .int .i64 _) rfl ?_)
                    refine RunL.cons (Op1.gtr rfl rfl ?_)
                    refine RunL.nil ?_
                    refine run_cond_dec rfl (fun g20 => ?_) (fun g20 => ?_)
                    · skip
                      have hcs := clip_step hcl (i := ((i : Int)).toNat) (by omega) (r := ((c.getD ((i : Int)).toNat (0, 0, 0)).1, (c.getD ((i : Int)).toNat (0, 0, 0)).2.1, wd)) (by unfold clipZ; rw [if_neg (by omega), if_pos (by omega)])
                      have hcs1 : clipN wd ht c i < l.length := hcs.1
                      have hcs2 : l.getD ((clipN wd ht c i : Int)).toNat (0, 0, 0) = ((c.getD ((i : Int)).toNat (0, 0, 0)).1, (c.getD ((i : Int)).toNat (0, 0, 0)).2.1, wd) := hcs.2.1
                      refine run_region ?_
                      refine RunL.cons (Op1.move (v := .int .i64 _) rfl ?_)
                      refine RunL.cons (Op1.fieldAddr fld56_2 rfl ?_)
                      refine RunL.cons (Op1.store (v := .int .i64 _) hst ty3 rfl rfl rfl rfl rfl (.here) (by repeat (first | exact Put.nil | apply Put.put | apply Put.skip)) fun w hst => ?_)
                      refine RunL.nil ?_
                      refine run_seq ?_
                      refine run_seq ?_
                      obtain ⟨bs21, rfl⟩ := Res.sl_some (hst.hL _ (.tail _ (.tail _ (.tail _ (.tail _ (.head _)))))) (by omega)
                      refine RunD.start [] hst (bs := [0, 0, 2, 7, 15, 31, 31, 127, 255, 31, 1023, 2047]) (ds := [some 141, some 142, some 143, some 144, some 145, some 146, some 147, some 148, some 149, some 150, some 151, some 152]) ⟨by kernel_rfl, by kernel_rfl, by kernel_rfl⟩ (fun tab22 => ?_)
                      refine RunD.op (det _) tab22 1 (fun f' L' w' hc => Op1.move (v := .int .i64 _) (hc.old (v := .int .i64 _) rfl rfl rfl) ⟨[], ⟨rfl, rfl⟩, hc.st⟩) ?_
                      refine RunD.op (det _) tab22 2 (fun f' L' w' hc => Op1.move (v := .slice _ _ _) (hc.old (v := .slice _ _ _) rfl rfl rfl) ⟨[], ⟨rfl, rfl⟩, hc.st⟩) ?_
                      refine RunD.op (det _) tab22 3 (fun f' L' w' hc => Op1.lenSl (rest := []) ty50 (hc.det (j := 1) rfl rfl rfl rfl) ⟨[], ⟨rfl, rfl⟩, hc.st⟩) ?_
                      refine RunD.op (det _) tab22 4 (fun f' L' w' hc => Op1.geq (hc.det (j := 0) rfl rfl rfl rfl) (hc.det (j := 2) rfl rfl rfl rfl) ⟨[], ⟨rfl, rfl⟩, hc.st⟩) ?_
                      refine RunD.op (det _) tab22 5 (fun f' L' w' hc => Op1.move (v := .bool _) (hc.det (j := 3) rfl rfl rfl rfl) ⟨[], ⟨rfl, rfl⟩, hc.st⟩) ?_
                      refine RunD.splitD (j := 4) rfl (fun g23 => ?_) (fun g23 => ?_)
                      · skip
                        exfalso
                        omega
                      · skip
                        refine RunD.take (det _) tab22 6 rfl (fun f' L' w' hc => (hc.det (j := 4) rfl rfl rfl rfl).trans (congrArg Value.bool (decide_eq_false g23))) (fun f' L' w' hc => Op1.move (v := .slice _ _ _) (hc.old (v := .slice _ _ _) rfl rfl rfl) ⟨[], ⟨rfl, rfl⟩, hc.st⟩) ?_
                        refine RunD.take (det _) tab22 7 rfl (fun f' L' w' hc => (hc.det (j := 4) rfl rfl rfl rfl).trans (congrArg Value.bool (decide_eq_false g23))) (fun f' L' w' hc => Op1.move (v := .int .i64 _) (hc.old (v := .int .i64 _) rfl rfl rfl) ⟨[], ⟨rfl, rfl⟩, hc.st⟩) ?_
                        refine RunD.take (det _) tab22 8 rfl (fun f' L' w' hc => (hc.det (j := 4) rfl rfl rfl rfl).trans (congrArg Value.bool (decide_eq_false g23))) (fun f' L' w' hc => Op1.indexSl ty50 ty56 (hc.det (j := 5) rfl rfl rfl rfl) (hc.det (j := 6) rfl rfl rfl rfl) (by omega) (by omega) ⟨[], ⟨rfl, rfl⟩, hc.st⟩) ?_
                        refine RunD.take (det _) tab22 9 rfl (fun f' L' w' hc => (hc.det (j := 4) rfl rfl rfl rfl).trans (congrArg Value.bool (decide_eq_false g23))) (fun f' L' w' hc => Op1.loadA (vs := [.int .i64 _, .int .i64 _, .int .i64 _]) ty56 rfl (hc.det (j := 7) rfl rfl rfl rfl) rfl (Res.sl_cells (k := 3) (hc.st.hL _ (List.mem_append_right _ (.tail _ (.tail _ (.tail _ (.tail _ (.head _))))))) _ (flat_seg (g := rowC) (d := (0, 0, 0)) rowC_len _ _ (by omega))) ⟨[], ⟨rfl, rfl⟩, hc.st⟩) ?_
                        refine RunD.take (det _) tab22 10 rfl (fun f' L' w' hc => (hc.det (j := 4) rfl rfl rfl rfl).trans (congrArg Value.bool (decide_eq_false g23))) (fun f' L' w' hc => Op1.loadA (vs := [.int .i64 _, .int .i64 _, .int .i64 _]) ty56 rfl (hc.old (v := .pointer (some ⟨_, _, none⟩)) rfl rfl rfl) rfl (cells_of_obj (n := 3) (hc.st.objL (List.mem_append_right _ (.head _))) _ rfl) ⟨[], ⟨rfl, rfl⟩, hc.st⟩) ?_
                        refine RunD.fin followsMixed tab22 hst rfl (fun f24 w R27 hs25 hd26 hr28 hst => ?_)
                        obtain ⟨h141_, r0⟩ := hd26 0 141 rfl rfl
                        obtain ⟨h142_, r1⟩ := hd26 1 142 rfl rfl
                        obtain ⟨h143_, r2⟩ := hd26 2 143 rfl rfl
                        obtain ⟨h144_, r3⟩ := hd26 3 144 rfl rfl
                        obtain ⟨h145_, r4⟩ := hd26 4 145 rfl rfl
                        obtain ⟨h146_, r5⟩ := hd26 5 146 rfl rfl
                        obtain ⟨h147_, r6⟩ := hd26 6 147 rfl rfl
                        obtain ⟨h148_, r7⟩ := hd26 7 148 rfl rfl
                        obtain ⟨h149_, r8⟩ := hd26 8 149 rfl rfl
                        obtain ⟨h150_, r9⟩ := hd26 9 150 rfl rfl
                        simp only [show List.range 10 = [0, 1, 2, 3, 4, 5, 6, 7, 8, 9] from rfl, List.flatMap_cons, List.flatMap_nil, List.map_cons, List.map_nil, r0, r1, r2, r3, r4, r5, r6, r7, r8, r9, List.nil_append, List.append_nil, List.cons_append] at hst
                        refine RunL.slots (sl := [(1, .int .i64 _), (2, .int .i64 _), (9, .slice _ _ _), (15, .slice _ _ _), (17, .int .i64 _), (18, .int .i64 _), (145, .bool _), (149, .agg #[.int .i64 _, .int .i64 _, .int .i64 _]), (150, .agg #[.int .i64 _, .int .i64 _, .int .i64 _])]) ⟨(hs25 1 rfl).trans rfl, (hs25 2 rfl).trans rfl, (hs25 9 rfl).trans rfl, (hs25 15 rfl).trans rfl, (hs25 17 rfl).trans rfl, (hs25 18 rfl).trans rfl, h145_, h149_, h150_, trivial⟩ ?_
                        clear hs25 hd26 hr28 tab22
                        refine RunL.take (t := 145) rfl (congrArg Value.bool (decide_eq_false g23)) (Op1.neqA (xs := [.int .i64 _, .int .i64 _, .int .i64 _]) (ys := [.int .i64 _, .int .i64 _, .int .i64 _]) rfl rfl (by kernel_rfl) (EqOk.struct Try.underlying56 (by kernel_rfl) (.cons (by decide) (PartOk.one ty3 rfl rfl) (PartOk.one ty3 rfl rfl) (EqOk.int ty3) (.cons (by decide) (PartOk.one ty3 rfl rfl) (PartOk.one ty3 rfl rfl) (EqOk.int ty3) (.cons (by decide) (PartOk.one ty3 rfl rfl) (PartOk.one ty3 rfl rfl) (EqOk.int ty3) .nil)))) ?_)
                        refine RunL.cons (Op1.pickF (u := .bool _) (congrArg Value.bool (decide_eq_false g23)) rfl ?_)
                        refine RunL.nil ?_
                        refine run_cond_split rfl (fun g29 => ?_) (fun g29 => ?_)
                        · skip
                          exfalso
                          rw [hcs2] at g29; simp at g29
                        · skip
                          refine run_skip ?_
                          refine run_region ?_
                          refine RunL.cons (Op1.move (v := .int .i64 _) rfl ?_)
                          refine RunL.cons (Op1.addN rfl rfl rfl (wrap_i64 (by omega) (by omega)) ?_)
                          refine RunL.cons (Op1.assign (v := .int .i64 _) rfl ?_)
                          refine RunL.nil ?_
                          refine run_inBlock ?_
                          refine run_region ?_
                          refine RunL.cons (Op1.move (v := .int .i64 _) rfl ?_)
                          refine RunL.cons (Op1.addN rfl rfl rfl (wrap_i64 (by omega) (by omega)) ?_)
                          refine RunL.cons (Op1.assign (v := .int .i64 _) rfl ?_)
                          refine RunL.nil ?_
                          refine run_inLoop ?_
                          have hsk1 : clipN wd ht c i + 1 = clipN wd ht c (i + 1) := hcs.2.2
                          replace hst := hst.pick (.cons (.there (.here)) (.cons (.there (.here)) (.cons (.there (.here)) (.cons (.there (.here)) (.cons (.there (.here)) .nil)))))
                          replace hst := hst.toD (L1 := [])
                          exact ih15 (i + 1) _ w (by omega) hst (by omega) ⟨rfl, rfl, rfl, rfl, trivial⟩ ⟨(congrArg (Value.int .i64) (by omega)), (congrArg (Value.int .i64) (by omega)), trivial⟩
                    · skip
                      have hcs := clip_step hcl (i := ((i : Int)).toNat) (by omega) (r := ((c.getD ((i : Int)).toNat (0, 0, 0)).1, (c.getD ((i : Int)).toNat (0, 0, 0)).2.1, (c.getD ((i : Int)).toNat (0, 0, 0)).2.2)) (by unfold clipZ; rw [if_neg (by omega), if_neg (by omega)])
                      have hcs1 : clipN wd ht c i < l.length := hcs.1
                      have hcs2 : l.getD ((clipN wd ht c i : Int)).toNat (0, 0, 0) = ((c.getD ((i : Int)).toNat (0, 0, 0)).1, (c.getD ((i : Int)).toNat (0, 0, 0)).2.1, (c.getD ((i : Int)).toNat (0, 0, 0)).2.2) := hcs.2.1
                      refine run_skip ?_
                      refine run_seq ?_
                      refine run_seq ?_
                      obtain ⟨bs30, rfl⟩ := Res.sl_some (hst.hL _ (.tail _ (.tail _ (.tail _ (.tail _ (.head _)))))) (by omega)
                      refine RunD.start [] hst (bs := [0, 0, 2, 7, 15, 31, 31, 127, 255, 31, 1023, 2047]) (ds := [some 141, some 142, some 143, some 144, some 145, some 146, some 147, some 148, some 149, some 150, some 151, some 152]) ⟨by kernel_rfl, by kernel_rfl, by kernel_rfl⟩ (fun tab31 => ?_)
                      refine RunD.op (det _) tab31 1 (fun f' L' w' hc => Op1.move (v := .int .i64 _) (hc.old (v := .int .i64 _) rfl rfl rfl) ⟨[], ⟨rfl, rfl⟩, hc.st⟩) ?_
                      refine RunD.op (det _) tab31 2 (fun f' L' w' hc => Op1.move (v := .slice _ _ _) (hc.old (v := .slice _ _ _) rfl rfl rfl) ⟨[], ⟨rfl, rfl⟩, hc.st⟩) ?_
                      refine RunD.op (det _) tab31 3 (fun f' L' w' hc => Op1.lenSl (rest := []) ty50 (hc.det (j := 1) rfl rfl rfl rfl) ⟨[], ⟨rfl, rfl⟩, hc.st⟩) ?_
                      refine RunD.op (det _) tab31 4 (fun f' L' w' hc => Op1.geq (hc.det (j := 0) rfl rfl rfl rfl) (hc.det (j := 2) rfl rfl rfl rfl) ⟨[], ⟨rfl, rfl⟩, hc.st⟩) ?_
                      refine RunD.op (det _) tab31 5 (fun f' L' w' hc => Op1.move (v := .bool _) (hc.det (j := 3) rfl rfl rfl rfl) ⟨[], ⟨rfl, rfl⟩, hc.st⟩) ?_
                      refine RunD.splitD (j := 4) rfl (fun g32 => ?_) (fun g32 => ?_)
                      · skip
                        exfalso
                        omega
                      · skip
                        refine RunD.take (det _) tab31 6 rfl (fun f' L' w' hc => (hc.det (j := 4) rfl rfl rfl rfl).trans (congrArg Value.bool (decide_eq_false g32))) (fun f' L' w' hc => Op1.move (v := .slice _ _ _) (hc.old (v := .slice _ _ _) rfl rfl rfl) ⟨[], ⟨rfl, rfl⟩, hc.st⟩) ?_
                        refine RunD.take (det _) tab31 7 rfl (fun f' L' w' hc => (hc.det (j := 4) rfl rfl rfl rfl).trans (congrArg Value.bool (decide_eq_false g32))) (fun f' L' w' hc => Op1.move (v := .int .i64 _) (hc.old (v := .int .i64 _) rfl rfl rfl) ⟨[], ⟨rfl, rfl⟩, hc.st⟩) ?_
                        refine RunD.take (det _) tab31 8 rfl (fun f' L' w' hc => (hc.det (j := 4) rfl rfl rfl rfl).trans (congrArg Value.bool (decide_eq_false g32))) (fun f' L' w' hc => Op1.indexSl ty50 ty56 (hc.det (j := 5) rfl rfl rfl rfl) (hc.det (j := 6) rfl rfl rfl rfl) (by omega) (by omega) ⟨[], ⟨rfl, rfl⟩, hc.st⟩) ?_
                        refine RunD.take (det _) tab31 9 rfl (fun f' L' w' hc => (hc.det (j := 4) rfl rfl rfl rfl).trans (congrArg Value.bool (decide_eq_false g32))) (fun f' L' w' hc => Op1.loadA (vs := [.int .i64 _, .int .i64 _, .int .i64 _]) ty56 rfl (hc.det (j := 7) rfl rfl rfl rfl) rfl (Res.sl_cells (k := 3) (hc.st.hL _ (List.mem_append_right _ (.tail _ (.tail _ (.tail _ (.tail _ (.head _))))))) _ (flat_seg (g := rowC) (d := (0, 0, 0)) rowC_len _ _ (by omega))) ⟨[], ⟨rfl, rfl⟩, hc.st⟩) ?_
                        refine RunD.take (det _) tab31 10 rfl (fun f' L' w' hc => (hc.det (j := 4) rfl rfl rfl rfl).trans (congrArg Value.bool (decide_eq_false g32))) (fun f' L' w' hc => Op1.loadA (vs := [.int .i64 _, .int .i64 _, .int .i64 _]) ty56 rfl (hc.old (v := .pointer (some ⟨_, _, none⟩)) rfl rfl rfl) rfl (cells_of_obj (n := 3) (hc.st.objL (List.mem_append_right _ (.head _))) _ rfl) ⟨[], ⟨rfl, rfl⟩, hc.st⟩) ?_
                        refine RunD.fin followsMixed tab31 hst rfl (fun f33 w R36 hs34 hd35 hr37 hst => ?_)
                        obtain ⟨h141_, r0⟩ := hd35 0 141 rfl rfl
                        obtain ⟨h142_, r1⟩ := hd35 1 142 rfl rfl
                        obtain ⟨h143_, r2⟩ := hd35 2 143 rfl rfl
                        obtain ⟨h144_, r3⟩ := hd35 3 144 rfl rfl
                        obtain ⟨h145_, r4⟩ := hd35 4 145 rfl rfl
                        obtain ⟨h146_, r5⟩ := hd35 5 146 rfl rfl
                        obtain ⟨h147_, r6⟩ := hd35 6 147 rfl rfl
                        obtain ⟨h148_, r7⟩ := hd35 7 148 rfl rfl
                        obtain ⟨h149_, r8⟩ := hd35 8 149 rfl rfl
                        obtain ⟨h150_, r9⟩ := hd35 9 150 rfl rfl
                        simp only [show List.range 10 = [0, 1, 2, 3, 4, 5, 6, 7, 8, 9] from rfl, List.flatMap_cons, List.flatMap_nil, List.map_cons, List.map_nil, r0, r1, r2, r3, r4, r5, r6, r7, r8, r9, List.nil_append, List.append_nil, List.cons_append] at hst
                        refine RunL.slots (sl := [(1, .int .i64 _), (2, .int .i64 _), (9, .slice _ _ _), (15, .slice _ _ _), (17, .int .i64 _), (18, .int .i64 _), (145, .bool _), (149, .agg #[.int .i64 _, .int .i64 _, .int .i64 _]), (150, .agg #[.int .i64 _, .int .i64 _, .int .i64 _])]) ⟨(hs34 1 rfl).trans rfl, (hs34 2 rfl).trans rfl, (hs34 9 rfl).trans rfl, (hs34 15 rfl).trans rfl, (hs34 17 rfl).trans rfl, (hs34 18 rfl).trans rfl, h145_, h149_, h150_, trivial⟩ ?_
                        clear hs34 hd35 hr37 tab31
                        refine RunL.take (t := 145) rfl (congrArg Value.bool (decide_eq_false g32)) (Op1.neqA (xs := [.int .i64 _, .int .i64 _, .int .i64 _]) (ys := [.int .i64 _, .int .i64 _, .int .i64 _]) rfl rfl (by kernel_rfl) (EqOk.struct Try.underlying56 (by kernel_rfl) (.cons (by decide) (PartOk.one ty3 rfl rfl) (PartOk.one ty3 rfl rfl) (EqOk.int ty3) (.cons (by decide) (PartOk.one ty3 rfl rfl) (PartOk.one ty3 rfl rfl) (EqOk.int ty3) (.cons (by decide) (PartOk.one ty3 rfl rfl) (PartOk.one ty3 rfl rfl) (EqOk.int ty3) .nil)))) ?_)
                        refine RunL.cons (Op1.pickF (u := .bool _) (congrArg Value.bool (decide_eq_false g32)) rfl ?_)
                        refine RunL.nil ?_
                        refine run_cond_split rfl (fun g38 => ?_) (fun g38 => ?_)
                        · skip
                          exfalso
                          rw [hcs2] at g38; simp at g38
                        · skip
                          refine run_skip ?_
                          refine run_region ?_
                          refine RunL.cons (Op1.move (v := .int .i64 _) rfl ?_)
                          refine RunL.cons (Op1.addN rfl rfl rfl (wrap_i64 (by omega) (by omega)) ?_)
                          refine RunL.cons (Op1.assign (v := .int .i64 _) rfl ?_)
                          refine RunL.nil ?_
                          refine run_inBlock ?_
                          refine run_region ?_
                          refine RunL.cons (Op1.move (v := .int .i64 _) rfl ?_)
                          refine RunL.cons (Op1.addN rfl rfl rfl (wrap_i64 (by omega) (by omega)) ?_)
                          refine RunL.cons (Op1.assign (v := .int .i64 _) rfl ?_)
                          refine RunL.nil ?_
                          refine run_inLoop ?_
                          have hsk1 : clipN wd ht c i + 1 = clipN wd ht c (i + 1) := hcs.2.2
                          replace hst := hst.pick (.cons (.there (.here)) (.cons (.there (.here)) (.cons (.there (.here)) (.cons (.there (.here)) (.cons (.there (.here)) .nil)))))
                          replace hst := hst.toD (L1 := [])
                          exact ih15 (i + 1) _ w (by omega) hst (by omega) ⟨rfl, rfl, rfl, rfl, trivial⟩ ⟨(congrArg (Value.int .i64) (by omega)), (congrArg (Value.int .i64) (by omega)), trivial⟩
              · skip
                obtain rfl : i = c.length := by omega
                have hend := clip_end hcl
                refine run_exit (id := 0) rfl ?_
                refine run_seq ?_
                refine run_region ?_
                refine RunL.cons (Op1.move (v := .int .i64 _) rfl ?_)
                refine RunL.cons (Op1.move (v := .slice _ _ _) rfl ?_)
                refine RunL.cons (Op1.lenSl (rest := []) ty50 rfl ?_)
                refine RunL.cons (Op1.eql rfl rfl ?_)
                refine RunL.cons (Op1.move (v := .bool _) rfl ?_)
                refine RunL.splitD (d := 159) rfl (fun g39 => ?_) (fun g39 => ?_)
                · skip
                  refine RunL.take (t := 159) rfl (congrArg Value.bool (decide_eq_true g39)) (Op1.call0  ent40 rfl  ((law28_awake _).mono fun v w hp => ?_))
                  obtain ⟨rfl, hp⟩ := hp
                  replace hst := hst.keepc hp
                  clear hp
                  refine RunL.cons (Op1.pickT (u := .bool _) (congrArg Value.bool (decide_eq_true g39)) rfl ?_)
                  refine RunL.cons (Op1.assign (v := .bool _) rfl ?_)
                  refine RunL.nil ?_
                  refine run_ret1 Try.func15 rfl (RV.tmp (v := .bool _) rfl) ?_
                  exact ⟨rfl, hst.pure⟩
                · skip
                  exfalso
                  exact g39 (by omega)
          · skip
            refine run_seq ?_
            refine run_region ?_
            refine RunL.cons (Op1.move (v := .int .i64 _) rfl ?_)
            refine RunL.cons (Op1.lss rfl rfl ?_)
            refine RunL.cons (Op1.move (v := .bool _) rfl ?_)
            refine RunL.splitD (d := 75) rfl (fun g40 => ?_) (fun g40 => ?_)
            · skip
              refine RunL.omit (t := 75) rfl (congrArg Value.bool (decide_eq_true g40)) rfl ?_
              refine RunL.omit (t := 75) rfl (congrArg Value.bool (decide_eq_true g40)) rfl ?_
              refine RunL.cons (Op1.pickT (u := .bool _) (congrArg Value.bool (decide_eq_true g40)) rfl ?_)
              refine RunL.cons (Op1.move (v := .bool _) rfl ?_)
              refine RunL.omit (t := 79) rfl (congrArg Value.bool (rfl : true = _)) rfl ?_
              refine RunL.omit (t := 79) rfl (congrArg Value.bool (rfl : true = _)) rfl ?_
              refine RunL.omit (t := 79) rfl (congrArg Value.bool (rfl : true = _)) rfl ?_
              refine RunL.omit (t := 79) rfl (congrArg Value.bool (rfl : true = _)) rfl ?_
              refine RunL.cons (Op1.pickT (u := .bool _) (congrArg Value.bool (rfl : true = _)) rfl ?_)
              refine RunL.cons (Op1.move (v := .bool _) rfl ?_)
              refine RunL.omit (t := 85) rfl (congrArg Value.bool (rfl : true = _)) rfl ?_
              refine RunL.omit (t := 85) rfl (congrArg Value.bool (rfl : true = _)) rfl ?_
              refine RunL.omit (t := 85) rfl (congrArg Value.bool (rfl : true = _)) rfl ?_
              refine RunL.omit (t := 85) rfl (congrArg Value.bool (rfl : true = _)) rfl ?_
              refine RunL.omit (t := 85) rfl (congrArg Value.bool (rfl : true = _)) rfl ?_
              refine RunL.omit (t := 85) rfl (congrArg Value.bool (rfl : true = _)) rfl ?_
              refine RunL.omit (t := 85) rfl (congrArg Value.bool (rfl : true = _)) rfl ?_
              refine RunL.omit (t := 85) rfl (congrArg Value.bool (rfl : true = _)) rfl ?_
              refine RunL.cons (Op1.pickT (u := .bool _) (congrArg Value.bool (rfl : true = _)) rfl ?_)
              refine RunL.nil ?_
              refine run_cond_true (congrArg Value.bool (rfl : true = _)) ?_
              refine run_seq ?_
              refine run_region ?_
              refine RunL.cons (Op1.call0  ent40 rfl  ((law28_awake _).mono fun v w hp => ?_))
              obtain ⟨rfl, hp⟩ := hp
              replace hst := hst.keepc hp
              clear hp
              refine RunL.cons (Op1.assign (v := .bool _) rfl ?_)
              refine RunL.nil ?_
              refine run_ret1 Try.func15 rfl (RV.tmp (v := .bool _) rfl) ?_
              exact ⟨rfl, hst.pure⟩
            · skip
              refine RunL.take (t := 75) rfl (congrArg Value.bool (decide_eq_false g40)) (Op1.move (v := .int .i64 _) rfl ?_)
              refine RunL.take (t := 75) rfl (congrArg Value.bool (decide_eq_false g40)) (Op1.gtr rfl rfl ?_)
              refine RunL.cons (Op1.pickF (u := .bool _) (congrArg Value.bool (decide_eq_false g40)) rfl ?_)
              refine RunL.cons (Op1.move (v := .bool _) rfl ?_)
              refine RunL.splitD (d := 79) rfl (fun g41 => ?_) (fun g41 => ?_)
              · skip
                refine RunL.omit (t := 79) rfl (congrArg Value.bool (decide_eq_true g41)) rfl ?_
                refine RunL.omit (t := 79) rfl (congrArg Value.bool (decide_eq_true g41)) rfl ?_
                refine RunL.omit (t := 79) rfl (congrArg Value.bool (decide_eq_true g41)) rfl ?_
                refine RunL.omit (t := 79) rfl (congrArg Value.bool (decide_eq_true g41)) rfl ?_
                refine RunL.cons (Op1.pickT (u := .bool _) (congrArg Value.bool (decide_eq_true g41)) rfl ?_)
                refine RunL.cons (Op1.move (v := .bool _) rfl ?_)
                refine RunL.omit (t := 85) rfl (congrArg Value.bool (rfl : true = _)) rfl ?_
                refine RunL.omit (t := 85) rfl (congrArg Value.bool (rfl : true = _)) rfl ?_
                refine RunL.omit (t := 85) rfl (congrArg Value.bool (rfl : true = _)) rfl ?_
                refine RunL.omit (t := 85) rfl (congrArg Value.bool (rfl : true = _)) rfl ?_
                refine RunL.omit (t := 85) rfl (congrArg Value.bool (rfl : true = _)) rfl ?_
                refine RunL.omit (t := 85) rfl (congrArg Value.bool (rfl : true = _)) rfl ?_
                refine RunL.omit (t := 85) rfl (congrArg Value.bool (rfl : true = _)) rfl ?_
                refine RunL.omit (t := 85) rfl (congrArg Value.bool (rfl : true = _)) rfl ?_
                refine RunL.cons (Op1.pickT (u := .bool _) (congrArg Value.bool (rfl : true = _)) rfl ?_)
                refine RunL.nil ?_
                refine run_cond_true (congrArg Value.bool (rfl : true = _)) ?_
                refine run_seq ?_
                refine run_region ?_
                refine RunL.cons (Op1.call0  ent40 rfl  ((law28_awake _).mono fun v w hp => ?_))
                obtain ⟨rfl, hp⟩ := hp
                replace hst := hst.keepc hp
                clear hp
                refine RunL.cons (Op1.assign (v := .bool _) rfl ?_)
                refine RunL.nil ?_
                refine run_ret1 Try.func15 rfl (RV.tmp (v := .bool _) rfl) ?_
                exact ⟨rfl, hst.pure⟩
              · skip
                refine RunL.take (t := 79) rfl (congrArg Value.bool (decide_eq_false g41)) (Op1.move (v := .int .i64 _) rfl ?_)
                refine RunL.take (t := 79) rfl (congrArg Value.bool (decide_eq_false g41)) (Op1.move (v := .int .i64 _) rfl ?_)
                refine RunL.take (t := 79) rfl (congrArg Value.bool (decide_eq_false g41)) (Op1.call2 (v1 := .int .i64 _) (v2 := .int .i64 _) ent45 rfl rfl rfl ((law28_picture _ _ _).mono fun v w hp => ?_))
                obtain ⟨rfl, hp⟩ := hp
                replace hst := hst.keepc hp
                clear hp
                refine RunL.take (t := 79) rfl (congrArg Value.bool (decide_eq_false g41)) (Op1.notD rfl ?_)
                refine RunL.cons (Op1.pickF (u := .bool _) (congrArg Value.bool (decide_eq_false g41)) rfl ?_)
                refine RunL.cons (Op1.move (v := .bool _) rfl ?_)
                refine RunL.splitD (d := 85) rfl (fun g42 => ?_) (fun g42 => ?_)
                · skip
                  refine RunL.omit (t := 85) rfl (congrArg Value.bool (decide_eq_true g42)) rfl ?_
                  refine RunL.omit (t := 85) rfl (congrArg Value.bool (decide_eq_true g42)) rfl ?_
                  refine RunL.omit (t := 85) rfl (congrArg Value.bool (decide_eq_true g42)) rfl ?_
                  refine RunL.omit (t := 85) rfl (congrArg Value.bool (decide_eq_true g42)) rfl ?_
                  refine RunL.omit (t := 85) rfl (congrArg Value.bool (decide_eq_true g42)) rfl ?_
                  refine RunL.omit (t := 85) rfl (congrArg Value.bool (decide_eq_true g42)) rfl ?_
                  refine RunL.omit (t := 85) rfl (congrArg Value.bool (decide_eq_true g42)) rfl ?_
                  refine RunL.omit (t := 85) rfl (congrArg Value.bool (decide_eq_true g42)) rfl ?_
                  refine RunL.cons (Op1.pickT (u := .bool _) (congrArg Value.bool (decide_eq_true g42)) rfl ?_)
                  refine RunL.nil ?_
                  refine run_cond_true (congrArg Value.bool (rfl : true = _)) ?_
                  refine run_seq ?_
                  refine run_region ?_
                  refine RunL.cons (Op1.call0  ent40 rfl  ((law28_awake _).mono fun v w hp => ?_))
                  obtain ⟨rfl, hp⟩ := hp
                  replace hst := hst.keepc hp
                  clear hp
                  refine RunL.cons (Op1.assign (v := .bool _) rfl ?_)
                  refine RunL.nil ?_
                  refine run_ret1 Try.func15 rfl (RV.tmp (v := .bool _) rfl) ?_
                  exact ⟨rfl, hst.pure⟩
                · skip
                  refine RunL.take (t := 85) rfl (congrArg Value.bool (decide_eq_false g42)) (Op1.move (v := .int .i64 _) rfl ?_)
                  refine RunL.take (t := 85) rfl (congrArg Value.bool (decide_eq_false g42)) (Op1.move (v := .int .i64 _) rfl ?_)
                  refine RunL.take (t := 85) rfl (congrArg Value.bool (decide_eq_false g42)) (Op1.addN rfl rfl rfl (wrap_i64 (by omega) (by omega)) ?_)
                  refine RunL.take (t := 85) rfl (congrArg Value.bool (decide_eq_false g42)) (Op1.move (v := .int .i64 _) rfl ?_)
                  refine RunL.take (t := 85) rfl (congrArg Value.bool (decide_eq_false g42)) (Op1.move (v := .int .i64 _) rfl ?_)
                  refine RunL.take (t := 85) rfl (congrArg Value.bool (decide_eq_false g42)) (Op1.addN rfl rfl rfl (wrap_i64 (by omega) (by omega)) ?_)
                  refine RunL.take (t := 85) rfl (congrArg Value.bool (decide_eq_false g42)) (Op1.call2 (v1 := .int .i64 _) (v2 := .int .i64 _) ent45 rfl rfl rfl ((law28_picture _ _ _).mono fun v w hp => ?_))
                  obtain ⟨rfl, hp⟩ := hp
                  replace hst := hst.keepc hp
                  clear hp
                  refine RunL.take (t := 85) rfl (congrArg Value.bool (decide_eq_false g42)) (Op1.notD rfl ?_)
                  refine RunL.cons (Op1.pickF (u := .bool _) (congrArg Value.bool (decide_eq_false g42)) rfl ?_)
                  refine RunL.nil ?_
                  refine run_cond_dec rfl (fun g43 => ?_) (fun g43 => ?_)
                  · skip
                    refine run_seq ?_
                    refine run_region ?_
                    refine RunL.cons (Op1.call0  ent40 rfl  ((law28_awake _).mono fun v w hp => ?_))
                    obtain ⟨rfl, hp⟩ := hp
                    replace hst := hst.keepc hp
                    clear hp
                    refine RunL.cons (Op1.assign (v := .bool _) rfl ?_)
                    refine RunL.nil ?_
                    refine run_ret1 Try.func15 rfl (RV.tmp (v := .bool _) rfl) ?_
                    exact ⟨rfl, hst.pure⟩
                  · skip
                    refine run_skip ?_
                    exact cut8 _ w hst (by omega) ⟨rfl, rfl, rfl, rfl, rfl, trivial⟩

end Go.SK
