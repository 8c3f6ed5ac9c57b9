/-
  Walks of functions, and of the laws over them.
-/
import Derived.Test.YtnbapjkldjhjoaaSkFacts1
import Derived.Test.YtnbapjkldjhjoaaSkCoverE
set_option linter.unusedVariables false
set_option linter.unusedSimpArgs false
namespace Go.SK
open Go Go.Proofs
open Go.RowKit
theorem cov_Count2 (ax ay az bx by_ bz cx cy cz wd ht : Int) (w : World) {l : List (Int × Int × Int)} (hl : covRows (clampZ ax) (clampZ ay) (clampZ bx) (clampZ by_) (clampZ cx) (clampZ cy) wd ht = l) :
    Ret Try.prog 44 #[.agg #[.int .i32 ax, .int .i32 ay, .int .i32 az, .int .i32 bx, .int .i32 by_, .int .i32 bz, .int .i32 cx, .int .i32 cy, .int .i32 cz], .int .i64 wd, .int .i64 ht] w fun v w' => v = .tuple #[.int .i64 (totN l l.length), .int .i64 (errZ wd ht)] ∧ St w NoM [] [] w' := by
  subst hl; exact cov_Count ax ay az bx by_ bz cx cy cz wd ht w
theorem law_CoverRows (ax ay az bx by_ bz cx cy cz : Int) (wd ht : Int) (w : World) : Ret Try.prog 13 #[.agg #[.int .i32 ax, .int .i32 ay, .int .i32 az, .int .i32 bx, .int .i32 by_, .int .i32 bz, .int .i32 cx, .int .i32 cy, .int .i32 cz], .int .i64 wd, .int .i64 ht] w (fun v w' => v = .bool true ∧ St w NoM [] [] w') := by
  refine Ret.enter (args := [.agg #[.int .i32 ax, .int .i32 ay, .int .i32 az, .int .i32 bx, .int .i32 by_, .int .i32 bz, .int .i32 cx, .int .i32 cy, .int .i32 cz], .int .i64 wd, .int .i64 ht]) Try.func13 rfl rfl rfl ?_
  have hst := St.init w
  obtain ⟨l, hl⟩ : ∃ l, covRows (clampZ ax) (clampZ ay) (clampZ bx) (clampZ by_) (clampZ cx) (clampZ cy) wd ht = l := ⟨_, rfl⟩
  have hbd := covRows_bd (clampZ ax) (clampZ ay) (clampZ bx) (clampZ by_) (clampZ cx) (clampZ cy) wd ht
  rw [hl] at hbd
  have hbd1 := hbd.1
  refine run_seq ?_
  refine run_region ?_
  refine RunL.cons (Op1.box (v := .agg #[.int .i32 _, .int .i32 _, .int .i32 _, .int .i32 _, .int .i32 _, .int .i32 _, .int .i32 _, .int .i32 _, .int .i32 _]) hst rfl rfl fun w b3 hst => ?_)
  refine RunL.cons (Op1.assign (v := .bool _) rfl ?_)
  refine RunL.nil ?_
  refine run_seq ?_
  refine run_region ?_
  refine RunL.cons (Op1.loadA (vs := [.int .i32 _, .int .i32 _, .int .i32 _, .int .i32 _, .int .i32 _, .int .i32 _, .int .i32 _, .int .i32 _, .int .i32 _]) ty27 rfl rfl rfl (cells_of_obj (n := 9) (hst.objL (.head _)) _ rfl) ?_)
  refine RunL.cons (Op1.move (v := .int .i64 _) rfl ?_)
  refine RunL.cons (Op1.move (v := .int .i64 _) rfl ?_)
  refine RunL.cons (Op1.call3 (v1 := .agg #[.int .i32 _, .int .i32 _, .int .i32 _, .int .i32 _, .int .i32 _, .int .i32 _, .int .i32 _, .int .i32 _, .int .i32 _]) (v2 := .int .i64 _) (v3 := .int .i64 _) ent41 rfl rfl rfl rfl ((ref_Rows282 _ _ _ _ _ _ _ _ _ _ _ _ hl).mono fun v w hp => ?_))
  obtain ⟨ao1, cp1, rfl, hp⟩ := hp
  replace hst := hst.call0 hp
  clear hp
  refine RunL.cons (Op1.move (v := .tuple #[.slice _ _ _, .int .i64 _]) rfl ?_)
  refine RunL.cons (Op1.extract (v := .slice _ _ _) rfl rfl ?_)
  refine RunL.cons (Op1.extract (v := .int .i64 _) rfl rfl ?_)
  refine RunL.cons (Op1.assign (v := .slice _ _ _) rfl ?_)
  refine RunL.cons (Op1.assign (v := .int .i64 _) rfl ?_)
  refine RunL.nil ?_
  refine run_seq ?_
  refine run_region ?_
  refine RunL.cons (Op1.loadA (vs := [.int .i32 _, .int .i32 _, .int .i32 _, .int .i32 _, .int .i32 _, .int .i32 _, .int .i32 _, .int .i32 _, .int .i32 _]) ty27 rfl rfl rfl (cells_of_obj (n := 9) (hst.objL (.tail _ (.head _))) _ rfl) ?_)
  refine RunL.cons (Op1.move (v := .int .i64 _) rfl ?_)
  refine RunL.cons (Op1.move (v := .int .i64 _) rfl ?_)
  refine RunL.cons (Op1.call3 (v1 := .agg #[.int .i32 _, .int .i32 _, .int .i32 _, .int .i32 _, .int .i32 _, .int .i32 _, .int .i32 _, .int .i32 _, .int .i32 _]) (v2 := .int .i64 _) (v3 := .int .i64 _) ent42 rfl rfl rfl rfl ((cov_Rows2 _ _ _ _ _ _ _ _ _ _ _ _ hl).mono fun v w hp => ?_))
  obtain ⟨ao2, cp2, rfl, hp⟩ := hp
  replace hst := hst.call0 hp
  clear hp
  refine RunL.cons (Op1.move (v := .tuple #[.slice _ _ _, .int .i64 _]) rfl ?_)
  refine RunL.cons (Op1.extract (v := .slice _ _ _) rfl rfl ?_)
  refine RunL.cons (Op1.extract (v := .int .i64 _) rfl rfl ?_)
  refine RunL.cons (Op1.assign (v := .slice _ _ _) rfl ?_)
  refine RunL.cons (Op1.assign (v := .int .i64 _) rfl ?_)
  refine RunL.nil ?_
  refine run_seq ?_
  refine run_seq ?_
  refine run_region ?_
  refine RunL.cons (Op1.move (v := .int .i64 _) rfl ?_)
  refine RunL.cons (Op1.move (v := .int .i64 _) rfl ?_)
  refine RunL.cons (Op1.neq rfl rfl ?_)
  refine RunL.cons (Op1.move (v := .bool _) rfl ?_)
  refine RunL.splitD (d := 34) rfl (fun g3 => ?_) (fun g3 => ?_)
  · skip
    exfalso
    exact g3 rfl
  · skip
    refine RunL.take (t := 34) rfl (congrArg Value.bool (decide_eq_false g3)) (Op1.move (v := .slice _ _ _) rfl ?_)
    refine RunL.take (t := 34) rfl (congrArg Value.bool (decide_eq_false g3)) (Op1.move (v := .slice _ _ _) rfl ?_)
    refine RunL.take (t := 34) rfl (congrArg Value.bool (decide_eq_false g3)) (Op1.call2 (v1 := .slice _ _ _) (v2 := .slice _ _ _) ent43 rfl rfl rfl ((law28_rows _ _ _ _ _ _ _ (hst.hL _ (.head _)) (hst.hL _ (.tail _ (.head _))) hbd1).mono fun v w hp => ?_))
    obtain ⟨rfl, hp⟩ := hp
    replace hst := hst.keepc hp
    clear hp
    refine RunL.take (t := 34) rfl (congrArg Value.bool (decide_eq_false g3)) (Op1.notD rfl ?_)
    refine RunL.cons (Op1.pickF (u := .bool _) (congrArg Value.bool (decide_eq_false g3)) rfl ?_)
    refine RunL.nil ?_
    refine run_cond_dec rfl (fun g4 => ?_) (fun g4 => ?_)
    · skip
      exfalso
      exact g4 rfl
    · skip
      refine run_skip ?_
      refine run_seq ?_
      refine run_region ?_
      refine RunL.cons (Op1.assign (v := .int .i64 _) rfl ?_)
      refine RunL.nil ?_
      refine run_seq ?_
      refine run_seq ?_
      refine run_region ?_
      refine RunL.cons (Op1.assign (v := .int .i64 _) rfl ?_)
      refine RunL.nil ?_
      refine run_block ?_
      refine run_loop ?_
      have sta5 := hst.static (L1 := [_])
      replace hst := hst.toD (L1 := [_])
      refine Run.indS (fun (q : Nat × List Value) => [(11, .int .i64 (totN l q.1)), (12, .int .i64 (q.1 : Int))]) [1, 2, 3, 7, 8, 9] (fun (q : Nat × List Value) => [Res.sl ao2 l.length cp2 56 3 q.2]) (fun (q : Nat × List Value) => q.1 ≤ l.length) (fun (q : Nat × List Value) => l.length - q.1) (0, _) hst (Nat.zero_le _) ⟨rfl, rfl, trivial⟩ (Keep.refl _ _) ?_
      intro ⟨i, xs⟩ f w kf6 hst hJ ih7
      replace hst : St _ _ [Res.sl ao2 l.length cp2 56 3 xs] _ _ := hst
      replace hJ : i ≤ l.length := hJ
      replace hst := hst.back sta5
      have ht1 := totN_bd hbd i hJ
      refine Run.slots (sl := [(1, .int .i64 _), (2, .int .i64 _), (3, .pointer (some ⟨_, _, none⟩)), (7, .slice _ _ _), (8, .int .i64 _), (9, .slice _ _ _), (11, .int .i64 (totN l i)), (12, .int .i64 (i : Int))]) ⟨(kf6.get 1 rfl).trans rfl, (kf6.get 2 rfl).trans rfl, (kf6.get 3 rfl).trans rfl, (kf6.get 7 rfl).trans rfl, (kf6.get 8 rfl).trans rfl, (kf6.get 9 rfl).trans rfl, rfl, rfl, trivial⟩ ?_
      refine run_seq ?_
      refine run_seq ?_
      refine run_region ?_
      refine RunL.cons (Op1.move (v := .int .i64 _) rfl ?_)
      refine RunL.cons (Op1.move (v := .slice _ _ _) rfl ?_)
      refine RunL.cons (Op1.lenSl (rest := []) ty50 rfl ?_)
      refine RunL.cons (Op1.lss rfl rfl ?_)
      refine RunL.nil ?_
      refine run_cond_dec rfl (fun g8 => ?_) (fun g8 => ?_)
      · skip
        have hb2 : 0 ≤ (l.getD ((i : Int)).toNat (0, 0, 0)).2.1 ∧ (l.getD ((i : Int)).toNat (0, 0, 0)).2.1 < (l.getD ((i : Int)).toNat (0, 0, 0)).2.2 ∧ (l.getD ((i : Int)).toNat (0, 0, 0)).2.2 ≤ 1024 := hbd.2 i (by omega)
        refine run_skip ?_
        refine run_seq ?_
        refine run_block ?_
        refine run_seq ?_
        obtain ⟨bs9, rfl⟩ := Res.sl_some (hst.hL _ (.tail _ (.head _))) (by omega)
        refine RunD.start [] hst (bs := [0, 0, 0, 6, 14, 30, 63, 0, 0, 384, 896, 1920, 4095, 8191]) (ds := [some 46, some 47, some 48, some 49, some 50, some 51, some 52, some 53, some 54, some 55, some 56, some 57, some 58, some 11]) ⟨by kernel_rfl, by kernel_rfl, by kernel_rfl⟩ (fun tab10 => ?_)
        refine RunD.op (det _) tab10 1 (fun f' L' w' hc => Op1.move (v := .int .i64 _) (hc.old (v := .int .i64 _) rfl rfl rfl) ⟨[], ⟨rfl, rfl⟩, hc.st⟩) ?_
        refine RunD.op (det _) tab10 2 (fun f' L' w' hc => Op1.move (v := .slice _ _ _) (hc.old (v := .slice _ _ _) rfl rfl rfl) ⟨[], ⟨rfl, rfl⟩, hc.st⟩) ?_
        refine RunD.op (det _) tab10 3 (fun f' L' w' hc => Op1.move (v := .int .i64 _) (hc.old (v := .int .i64 _) rfl rfl rfl) ⟨[], ⟨rfl, rfl⟩, hc.st⟩) ?_
        refine RunD.op (det _) tab10 4 (fun f' L' w' hc => Op1.indexSl ty50 ty56 (hc.det (j := 1) rfl rfl rfl rfl) (hc.det (j := 2) rfl rfl rfl rfl) (by omega) (by omega) ⟨[], ⟨rfl, rfl⟩, hc.st⟩) ?_
        refine RunD.op (det _) tab10 5 (fun f' L' w' hc => Op1.fieldAddr fld56_2 (hc.det (j := 3) rfl rfl rfl rfl) ⟨[], ⟨rfl, rfl⟩, hc.st⟩) ?_
        refine RunD.op (det _) tab10 6 (fun f' L' w' hc => Op1.load1 (v := .int .i64 _) ty3 rfl (hc.det (j := 4) rfl rfl rfl rfl) (Res.sl_cell (hc.st.hL _ (List.mem_append_right _ (.tail _ (.head _)))) (flat_cell (g := rowC) (d := (0, 0, 0)) rowC_len rfl (by omega))) ⟨[], ⟨rfl, rfl⟩, hc.st⟩) ?_
        refine RunD.op (det _) tab10 7 (fun f' L' w' hc => Op1.addN (hc.det (j := 0) rfl rfl rfl rfl) (hc.det (j := 5) rfl rfl rfl rfl) rfl (wrap_i64 (by omega) (by omega)) ⟨[], ⟨rfl, rfl⟩, hc.st⟩) ?_
        refine RunD.op (det _) tab10 8 (fun f' L' w' hc => Op1.move (v := .slice _ _ _) (hc.old (v := .slice _ _ _) rfl rfl rfl) ⟨[], ⟨rfl, rfl⟩, hc.st⟩) ?_
        refine RunD.op (det _) tab10 9 (fun f' L' w' hc => Op1.move (v := .int .i64 _) (hc.old (v := .int .i64 _) rfl rfl rfl) ⟨[], ⟨rfl, rfl⟩, hc.st⟩) ?_
        refine RunD.op (det _) tab10 10 (fun f' L' w' hc => Op1.indexSl ty50 ty56 (hc.det (j := 7) rfl rfl rfl rfl) (hc.det (j := 8) rfl rfl rfl rfl) (by omega) (by omega) ⟨[], ⟨rfl, rfl⟩, hc.st⟩) ?_
        refine RunD.op (det _) tab10 11 (fun f' L' w' hc => Op1.fieldAddr fld56_1 (hc.det (j := 9) rfl rfl rfl rfl) ⟨[], ⟨rfl, rfl⟩, hc.st⟩) ?_
        refine RunD.op (det _) tab10 12 (fun f' L' w' hc => Op1.load1 (v := .int .i64 _) ty3 rfl (hc.det (j := 10) rfl rfl rfl rfl) (Res.sl_cell (hc.st.hL _ (List.mem_append_right _ (.tail _ (.head _)))) (flat_cell (g := rowC) (d := (0, 0, 0)) rowC_len rfl (by omega))) ⟨[], ⟨rfl, rfl⟩, hc.st⟩) ?_
        refine RunD.fin followsMixed tab10 hst rfl (fun f11 w R14 hs12 hd13 hr15 hst => ?_)
        obtain ⟨h46_, r0⟩ := hd13 0 46 rfl rfl
        obtain ⟨h47_, r1⟩ := hd13 1 47 rfl rfl
        obtain ⟨h48_, r2⟩ := hd13 2 48 rfl rfl
        obtain ⟨h49_, r3⟩ := hd13 3 49 rfl rfl
        obtain ⟨h50_, r4⟩ := hd13 4 50 rfl rfl
        obtain ⟨h51_, r5⟩ := hd13 5 51 rfl rfl
        obtain ⟨h52_, r6⟩ := hd13 6 52 rfl rfl
        obtain ⟨h53_, r7⟩ := hd13 7 53 rfl rfl
        obtain ⟨h54_, r8⟩ := hd13 8 54 rfl rfl
        obtain ⟨h55_, r9⟩ := hd13 9 55 rfl rfl
        obtain ⟨h56_, r10⟩ := hd13 10 56 rfl rfl
        obtain ⟨h57_, r11⟩ := hd13 11 57 rfl rfl
        simp only [show List.range 12 = [0, 1, 2, 3, 4, 5, 6, 7, 8, 9, 10, 11] from rfl, List.flatMap_cons, List.flatMap_nil, List.map_cons, List.map_nil, r0, r1, r2, r3, r4, r5, r6, r7, r8, r9, r10, r11, List.nil_append, List.append_nil, List.cons_append] at hst
        refine RunL.slots (sl := [(1, .int .i64 _), (2, .int .i64 _), (3, .pointer (some ⟨_, _, none⟩)), (7, .slice _ _ _), (8, .int .i64 _), (9, .slice _ _ _), (12, .int .i64 _), (52, .int .i64 _), (57, .int .i64 _)]) ⟨(hs12 1 rfl).trans rfl, (hs12 2 rfl).trans rfl, (hs12 3 rfl).trans rfl, (hs12 7 rfl).trans rfl, (hs12 8 rfl).trans rfl, (hs12 9 rfl).trans rfl, (hs12 12 rfl).trans rfl, h52_, h57_, trivial⟩ ?_
        clear hs12 hd13 hr15 tab10
        refine RunL.cons (Op1.subN rfl rfl rfl (wrap_i64 (by omega) (by omega)) ?_)
        refine RunL.cons (Op1.assign (v := .int .i64 _) rfl ?_)
        refine RunL.nil ?_
        refine run_region ?_
        refine RunL.cons (Op1.move (v := .slice _ _ _) rfl ?_)
        refine RunL.cons (Op1.move (v := .int .i64 _) rfl ?_)
        refine RunL.cons (Op1.buildStruct ty56 stf56 (.cons rfl (v := .int .i64 _) rfl rfl rfl rfl (by repeat (first | exact Put.nil | apply Put.put | apply Put.skip)) .nil) ?_)
        obtain ⟨bs16, rfl⟩ := Res.sl_some (hst.hL _ (.head _)) (by omega)
        refine RunL.cons (Op1.indexSl ty50 ty56 rfl rfl (by omega) (by omega) ?_)
        refine RunL.cons (Op1.storeSl (v := .agg #[.int .i64 _, .int .i64 _, .int .i64 _]) hst ty56 rfl rfl rfl rfl rfl (.here) (by simp only [List.length_cons, List.length_nil]; omega) fun w hst => ?_)
        refine RunL.nil ?_
        refine run_inBlock ?_
        refine run_region ?_
        refine RunL.cons (Op1.move (v := .int .i64 _) rfl ?_)
        refine RunL.cons (Op1.addN rfl rfl rfl (wrap_i64 (by omega) (by omega)) ?_)
        refine RunL.cons (Op1.assign (v := .int .i64 _) rfl ?_)
        refine RunL.nil ?_
        refine run_inLoop ?_
        replace hst := hst.toD (L1 := [_])
        exact ih7 (i + 1, _) _ w (by (try dsimp only); omega) hst (by (try dsimp only); omega) ⟨rfl, rfl, rfl, rfl, rfl, rfl, trivial⟩ ⟨(congrArg (Value.int .i64) (by simp only [totN, Int.toNat_natCast]; omega)), (congrArg (Value.int .i64) (by (try dsimp only); omega)), trivial⟩
      · skip
        obtain rfl : i = l.length := by omega
        refine run_exit (id := 0) rfl ?_
        refine run_seq ?_
        refine run_region ?_
        refine RunL.cons (Op1.loadA (vs := [.int .i32 _, .int .i32 _, .int .i32 _, .int .i32 _, .int .i32 _, .int .i32 _, .int .i32 _, .int .i32 _, .int .i32 _]) ty27 rfl rfl rfl (cells_of_obj (n := 9) (hst.objL (.tail _ (.tail _ (.head _)))) _ rfl) ?_)
        refine RunL.cons (Op1.move (v := .int .i64 _) rfl ?_)
        refine RunL.cons (Op1.move (v := .int .i64 _) rfl ?_)
        refine RunL.cons (Op1.call3 (v1 := .agg #[.int .i32 _, .int .i32 _, .int .i32 _, .int .i32 _, .int .i32 _, .int .i32 _, .int .i32 _, .int .i32 _, .int .i32 _]) (v2 := .int .i64 _) (v3 := .int .i64 _) ent42 rfl rfl rfl rfl ((cov_Rows2 _ _ _ _ _ _ _ _ _ _ _ _ hl).mono fun v w hp => ?_))
        obtain ⟨ao17, cp17, rfl, hp⟩ := hp
        replace hst := hst.call0 hp
        clear hp
        refine RunL.cons (Op1.move (v := .tuple #[.slice _ _ _, .int .i64 _]) rfl ?_)
        refine RunL.cons (Op1.extract (v := .slice _ _ _) rfl rfl ?_)
        refine RunL.cons (Op1.extract (v := .int .i64 _) rfl rfl ?_)
        refine RunL.cons (Op1.assign (v := .slice _ _ _) rfl ?_)
        refine RunL.cons (Op1.assign (v := .int .i64 _) rfl ?_)
        refine RunL.nil ?_
        refine run_seq ?_
        refine run_region ?_
        refine RunL.cons (Op1.loadA (vs := [.int .i32 _, .int .i32 _, .int .i32 _, .int .i32 _, .int .i32 _, .int .i32 _, .int .i32 _, .int .i32 _, .int .i32 _]) ty27 rfl rfl rfl (cells_of_obj (n := 9) (hst.objL (.tail _ (.tail _ (.tail _ (.head _))))) _ rfl) ?_)
        refine RunL.cons (Op1.move (v := .int .i64 _) rfl ?_)
        refine RunL.cons (Op1.move (v := .int .i64 _) rfl ?_)
        refine RunL.cons (Op1.call3 (v1 := .agg #[.int .i32 _, .int .i32 _, .int .i32 _, .int .i32 _, .int .i32 _, .int .i32 _, .int .i32 _, .int .i32 _, .int .i32 _]) (v2 := .int .i64 _) (v3 := .int .i64 _) ent44 rfl rfl rfl rfl ((cov_Count2 _ _ _ _ _ _ _ _ _ _ _ _ hl).mono fun v w hp => ?_))
        obtain ⟨rfl, hp⟩ := hp
        replace hst := hst.keepc hp
        clear hp
        refine RunL.cons (Op1.move (v := .tuple #[.int .i64 _, .int .i64 _]) rfl ?_)
        refine RunL.cons (Op1.extract (v := .int .i64 _) rfl rfl ?_)
        refine RunL.cons (Op1.extract (v := .int .i64 _) rfl rfl ?_)
        refine RunL.cons (Op1.assign (v := .int .i64 _) rfl ?_)
        refine RunL.cons (Op1.assign (v := .int .i64 _) rfl ?_)
        refine RunL.nil ?_
        refine run_seq ?_
        refine run_region ?_
        refine RunL.cons (Op1.move (v := .slice _ _ _) rfl ?_)
        refine RunL.cons (Op1.move (v := .slice _ _ _) rfl ?_)
        refine RunL.cons (Op1.call2 (v1 := .slice _ _ _) (v2 := .slice _ _ _) ent43 rfl rfl rfl ((law28_rows _ _ _ _ _ _ _ (hst.hL _ (.head _)) (hst.hL _ (.tail _ (.tail _ (.head _)))) hbd1).mono fun v w hp => ?_))
        obtain ⟨rfl, hp⟩ := hp
        replace hst := hst.keepc hp
        clear hp
        refine RunL.cons (Op1.move (v := .bool _) rfl ?_)
        refine RunL.splitD (d := 80) rfl (fun g18 => ?_) (fun g18 => ?_)
        · skip
          refine RunL.take (t := 80) rfl (congrArg Value.bool (decide_eq_true g18)) (Op1.move (v := .int .i64 _) rfl ?_)
          refine RunL.take (t := 80) rfl (congrArg Value.bool (decide_eq_true g18)) (Op1.move (v := .int .i64 _) rfl ?_)
          refine RunL.take (t := 80) rfl (congrArg Value.bool (decide_eq_true g18)) (Op1.eql rfl rfl ?_)
          refine RunL.cons (Op1.pickT (u := .bool _) (congrArg Value.bool (decide_eq_true g18)) rfl ?_)
          refine RunL.cons (Op1.move (v := .bool _) rfl ?_)
          refine RunL.splitD (d := 85) rfl (fun g19 => ?_) (fun g19 => ?_)
          · skip
            refine RunL.take (t := 85) rfl (congrArg Value.bool (decide_eq_true g19)) (Op1.move (v := .int .i64 _) rfl ?_)
            refine RunL.take (t := 85) rfl (congrArg Value.bool (decide_eq_true g19)) (Op1.move (v := .int .i64 _) rfl ?_)
            refine RunL.take (t := 85) rfl (congrArg Value.bool (decide_eq_true g19)) (Op1.eql rfl rfl ?_)
            refine RunL.cons (Op1.pickT (u := .bool _) (congrArg Value.bool (decide_eq_true g19)) rfl ?_)
            refine RunL.cons (Op1.move (v := .bool _) rfl ?_)
            refine RunL.splitD (d := 90) rfl (fun g20 => ?_) (fun g20 => ?_)
            · skip
              refine RunL.take (t := 90) rfl (congrArg Value.bool (decide_eq_true g20)) (Op1.call0  ent40 rfl  ((law28_awake _).mono fun v w hp => ?_))
              obtain ⟨rfl, hp⟩ := hp
              replace hst := hst.keepc hp
              clear hp
              refine RunL.cons (Op1.pickT (u := .bool _) (congrArg Value.bool (decide_eq_true g20)) rfl ?_)
              refine RunL.cons (Op1.assign (v := .bool _) rfl ?_)
              refine RunL.nil ?_
              refine run_ret1 Try.func13 rfl (RV.tmp (v := .bool _) rfl) ?_
              exact ⟨rfl, hst.pure⟩
            · skip
              exfalso
              exact g20 rfl
          · skip
            exfalso
            exact g19 rfl
        · skip
          exfalso
          exact g18 rfl

end Go.SK
