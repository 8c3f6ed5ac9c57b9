/-
  The walks of the functions of edge, cover and of their references, and of the laws over them.
-/
import Derived.Test.YtnbapjkldjhjoaaSkFacts1
import Derived.Test.YtnbapjkldjhjoaaSkFacts2
import Derived.Test.YtnbapjkldjhjoaaSkCoverH
set_option linter.unusedVariables false
set_option linter.unusedSimpArgs false
namespace Go.SK
open Go Go.Proofs
open Go.RowKit
set_option maxHeartbeats 1000000 in
theorem law_CoverTrue (ax ay az bx by_ bz cx cy cz : Int) (wd ht x y : Int) (w : World) : Ret Try.prog 14 #[.agg #[.int .i32 ax, .int .i32 ay, .int .i32 az, .int .i32 bx, .int .i32 by_, .int .i32 bz, .int .i32 cx, .int .i32 cy, .int .i32 cz], .int .i64 wd, .int .i64 ht, .int .i64 x, .int .i64 y] w (fun v w' => v = .bool true ∧ St w NoM [] [] w') := by
  refine Ret.enter (args := [.agg #[.int .i32 ax, .int .i32 ay, .int .i32 az, .int .i32 bx, .int .i32 by_, .int .i32 bz, .int .i32 cx, .int .i32 cy, .int .i32 cz], .int .i64 wd, .int .i64 ht, .int .i64 x, .int .i64 y]) Try.func14 rfl rfl rfl ?_
  have hst := St.init w
  rcases hB : boxV (clampZ ax) (clampZ ay) (clampZ bx) (clampZ by_) (clampZ cx) (clampZ cy) wd ht with ⟨x0, x1, y0, y1⟩
  obtain ⟨l, hl⟩ : ∃ l, covRows (clampZ ax) (clampZ ay) (clampZ bx) (clampZ by_) (clampZ cx) (clampZ cy) wd ht = l := ⟨_, rfl⟩
  have hbd := covRows_bd (clampZ ax) (clampZ ay) (clampZ bx) (clampZ by_) (clampZ cx) (clampZ cy) wd ht
  rw [hl] at hbd
  have hbd1 := hbd.1
  refine run_seq ?_
  refine run_region ?_
  refine RunL.cons (Op1.box (v := .agg #[.int .i32 _, .int .i32 _, .int .i32 _, .int .i32 _, .int .i32 _, .int .i32 _, .int .i32 _, .int .i32 _, .int .i32 _]) hst rfl rfl fun w b5 hst => ?_)
  refine RunL.cons (Op1.assign (v := .bool _) rfl ?_)
  refine RunL.nil ?_
  refine run_seq ?_
  refine run_region ?_
  refine RunL.cons (Op1.loadA (vs := [.int .i32 _, .int .i32 _, .int .i32 _, .int .i32 _, .int .i32 _, .int .i32 _, .int .i32 _, .int .i32 _, .int .i32 _]) ty27 rfl rfl rfl (cells_of_obj (n := 9) (hst.objL (.head _)) _ rfl) ?_)
  refine RunL.cons (Op1.move (v := .int .i64 _) rfl ?_)
  refine RunL.cons (Op1.move (v := .int .i64 _) rfl ?_)
  refine RunL.cons (Op1.call3 (v1 := .agg #[.int .i32 _, .int .i32 _, .int .i32 _, .int .i32 _, .int .i32 _, .int .i32 _, .int .i32 _, .int .i32 _, .int .i32 _]) (v2 := .int .i64 _) (v3 := .int .i64 _) ent42 rfl rfl rfl rfl ((cov_Rows2 _ _ _ _ _ _ _ _ _ _ _ _ hl).mono fun v w hp => ?_))
  obtain ⟨ao1, cp1, rfl, hp⟩ := hp
  replace hst := hst.call0 hp
  clear hp
  refine RunL.cons (Op1.move (v := .tuple #[.slice _ _ _, .int .i64 _]) rfl ?_)
  refine RunL.cons (Op1.extract (v := .slice _ _ _) rfl rfl ?_)
  refine RunL.cons (Op1.extract (v := .int .i64 _) rfl rfl ?_)
  refine RunL.cons (Op1.assign (v := .slice _ _ _) rfl ?_)
  refine RunL.cons (Op1.assign (v := .int .i64 _) rfl ?_)
  refine RunL.nil ?_
  refine run_seq ?_
  refine run_seq ?_
  refine run_region ?_
  refine RunL.cons (Op1.move (v := .int .i64 _) rfl ?_)
  refine RunL.cons (Op1.move (v := .int .i64 _) rfl ?_)
  refine RunL.cons (Op1.call2 (v1 := .int .i64 _) (v2 := .int .i64 _) ent45 rfl rfl rfl ((law28_picture _ _ _).mono fun v w hp => ?_))
  obtain ⟨rfl, hp⟩ := hp
  replace hst := hst.keepc hp
  clear hp
  refine RunL.cons (Op1.notD rfl ?_)
  refine RunL.nil ?_
  refine run_cond_dec rfl (fun g2 => ?_) (fun g2 => ?_)
  · skip
    refine run_seq ?_
    refine run_region ?_
    refine RunL.cons (Op1.move (v := .int .i64 _) rfl ?_)
    refine RunL.cons (Op1.eql rfl rfl ?_)
    refine RunL.cons (Op1.move (v := .bool _) rfl ?_)
    refine RunL.splitD (d := 32) rfl (fun g3 => ?_) (fun g3 => ?_)
    · skip
      refine RunL.take (t := 32) rfl (congrArg Value.bool (decide_eq_true g3)) (Op1.move (v := .slice _ _ _) rfl ?_)
      refine RunL.take (t := 32) rfl (congrArg Value.bool (decide_eq_true g3)) (Op1.lenSl (rest := []) ty50 rfl ?_)
      refine RunL.take (t := 32) rfl (congrArg Value.bool (decide_eq_true g3)) (Op1.eql rfl rfl ?_)
      refine RunL.cons (Op1.pickT (u := .bool _) (congrArg Value.bool (decide_eq_true g3)) rfl ?_)
      refine RunL.cons (Op1.move (v := .bool _) rfl ?_)
      refine RunL.splitD (d := 37) rfl (fun g4 => ?_) (fun g4 => ?_)
      · skip
        refine RunL.take (t := 37) rfl (congrArg Value.bool (decide_eq_true g4)) (Op1.call0  ent40 rfl  ((law28_awake _).mono fun v w hp => ?_))
        obtain ⟨rfl, hp⟩ := hp
        replace hst := hst.keepc hp
        clear hp
        refine RunL.cons (Op1.pickT (u := .bool _) (congrArg Value.bool (decide_eq_true g4)) rfl ?_)
        refine RunL.cons (Op1.assign (v := .bool _) rfl ?_)
        refine RunL.nil ?_
        refine run_ret1 Try.func14 rfl (RV.tmp (v := .bool _) rfl) ?_
        exact ⟨rfl, hst.pure⟩
      · skip
        exfalso
        (have hz := rows_no (ax := clampZ ax) (ay := clampZ ay) (bx := clampZ bx) (by_ := clampZ by_) (cx := clampZ cx) (cy := clampZ cy) (wd := wd) (ht := ht) (by omega); rw [hl] at hz; subst hz; exact g4 rfl)
    · skip
      exfalso
      exact g3 (if_neg (by omega))
  · skip
    have hpic : Pic wd ht := by omega
    have hhas := has_cov (ax := clampZ ax) (ay := clampZ ay) (bx := clampZ bx) (by_ := clampZ by_) (cx := clampZ cx) (cy := clampZ cy) (x := x) (y := y) hpic
    rw [hl] at hhas
    refine run_skip ?_
    refine run_seq ?_
    refine Run.cutV hst (fun (u : Unit) => [(13, .bool (decide (0 ≤ x ∧ x < wd ∧ 0 ≤ y ∧ y < ht)))]) [1, 2, 3, 4, 5, 11, 12] (fun (u : Unit) => True) (fun u f w kf7 hst hJ6 => ?_) (fun cut5 => ?_)
    · skip
      refine Run.slots (sl := [(1, .int .i64 _), (2, .int .i64 _), (3, .int .i64 _), (4, .int .i64 _), (5, .pointer (some ⟨_, _, none⟩)), (11, .slice _ _ _), (12, .int .i64 _), (13, .bool (decide (0 ≤ x ∧ x < wd ∧ 0 ≤ y ∧ y < ht)))]) ⟨(kf7.get 1 rfl).trans rfl, (kf7.get 2 rfl).trans rfl, (kf7.get 3 rfl).trans rfl, (kf7.get 4 rfl).trans rfl, (kf7.get 5 rfl).trans rfl, (kf7.get 11 rfl).trans rfl, (kf7.get 12 rfl).trans rfl, rfl, trivial⟩ ?_
      refine run_seq ?_
      refine run_seq ?_
      refine run_region ?_
      refine RunL.cons (Op1.move (v := .int .i64 _) rfl ?_)
      refine RunL.cons (Op1.neq rfl rfl ?_)
      refine RunL.cons (Op1.move (v := .bool _) rfl ?_)
      refine RunL.splitD (d := 58) rfl (fun g8 => ?_) (fun g8 => ?_)
      · skip
        exfalso
        exact g8 ((errZ_pic _ _).2 hpic)
      · skip
        refine RunL.take (t := 58) rfl (congrArg Value.bool (decide_eq_false g8)) (Op1.move (v := .slice _ _ _) rfl ?_)
        refine RunL.take (t := 58) rfl (congrArg Value.bool (decide_eq_false g8)) (Op1.move (v := .int .i64 _) rfl ?_)
        refine RunL.take (t := 58) rfl (congrArg Value.bool (decide_eq_false g8)) (Op1.move (v := .int .i64 _) rfl ?_)
        refine RunL.take (t := 58) rfl (congrArg Value.bool (decide_eq_false g8)) (Op1.call3 (v1 := .slice _ _ _) (v2 := .int .i64 _) (v3 := .int .i64 _) ent46 rfl rfl rfl rfl ((law28_has _ _ _ _ _ _ (hst.hL _ (.head _)) hbd1).mono fun v w hp => ?_))
        obtain ⟨rfl, hp⟩ := hp
        replace hst := hst.keepc hp
        clear hp
        refine RunL.take (t := 58) rfl (congrArg Value.bool (decide_eq_false g8)) (Op1.move (v := .bool _) rfl ?_)
        refine RunL.take (t := 58) rfl (congrArg Value.bool (decide_eq_false g8)) (Op1.move (v := .bool _) rfl ?_)
        refine RunL.splitD (d := 64) rfl (fun g9 => ?_) (fun g9 => ?_)
        · skip
          refine RunL.take (t := 64) rfl (congrArg Value.bool (decide_eq_true g9)) (Op1.loadA (vs := [.int .i32 _, .int .i32 _, .int .i32 _, .int .i32 _, .int .i32 _, .int .i32 _, .int .i32 _, .int .i32 _, .int .i32 _]) ty27 rfl rfl rfl (cells_of_obj (n := 9) (hst.objL (.tail _ (.head _))) _ rfl) ?_)
          refine RunL.take (t := 64) rfl (congrArg Value.bool (decide_eq_true g9)) (Op1.move (v := .int .i64 _) rfl ?_)
          refine RunL.take (t := 64) rfl (congrArg Value.bool (decide_eq_true g9)) (Op1.move (v := .int .i64 _) rfl ?_)
          refine RunL.take (t := 64) rfl (congrArg Value.bool (decide_eq_true g9)) (Op1.call3 (v1 := .agg #[.int .i32 _, .int .i32 _, .int .i32 _, .int .i32 _, .int .i32 _, .int .i32 _, .int .i32 _, .int .i32 _, .int .i32 _]) (v2 := .int .i64 _) (v3 := .int .i64 _) ent34 rfl rfl rfl rfl ((edge_covers _ _ _ _ _ _ _ _ _ _ _ _).mono fun v w hp => ?_))
          obtain ⟨rfl, hp⟩ := hp
          replace hst := hst.keepc hp
          clear hp
          refine RunL.take (t := 58) rfl (congrArg Value.bool (decide_eq_false g8)) (Op1.pickT (u := .bool _) (congrArg Value.bool (decide_eq_true g9)) rfl ?_)
          refine RunL.take (t := 58) rfl (congrArg Value.bool (decide_eq_false g8)) (Op1.neqB ty4 rfl rfl ?_)
          refine RunL.cons (Op1.pickF (u := .bool _) (congrArg Value.bool (decide_eq_false g8)) rfl ?_)
          refine RunL.nil ?_
          refine run_cond_split rfl (fun g10 => ?_) (fun g10 => ?_)
          · skip
            exfalso
            rw [hhas, decide_eq_true (by omega)] at g10; simp at g10
          · skip
            refine run_skip ?_
            refine run_seq ?_
            refine run_region ?_
            refine RunL.cons (Op1.loadA (vs := [.int .i32 _, .int .i32 _, .int .i32 _, .int .i32 _, .int .i32 _, .int .i32 _, .int .i32 _, .int .i32 _, .int .i32 _]) ty27 rfl rfl rfl (cells_of_obj (n := 9) (hst.objL (.tail _ (.head _))) _ rfl) ?_)
            refine RunL.cons (Op1.move (v := .int .i64 _) rfl ?_)
            refine RunL.cons (Op1.move (v := .int .i64 _) rfl ?_)
            refine RunL.cons (Op1.call3 (v1 := .agg #[.int .i32 _, .int .i32 _, .int .i32 _, .int .i32 _, .int .i32 _, .int .i32 _, .int .i32 _, .int .i32 _, .int .i32 _]) (v2 := .int .i64 _) (v3 := .int .i64 _) ent39 rfl rfl rfl rfl ((cov_Box2 _ _ _ _ _ _ _ _ _ _ _ _ hB).mono fun v w hp => ?_))
            obtain ⟨rfl, hp⟩ := hp
            replace hst := hst.keepc hp
            clear hp
            refine RunL.cons (Op1.move (v := .tuple #[.agg #[.int .i64 _, .int .i64 _], .agg #[.int .i64 _, .int .i64 _], .bool _]) rfl ?_)
            refine RunL.cons (Op1.extract (v := .agg #[.int .i64 _, .int .i64 _]) rfl rfl ?_)
            refine RunL.cons (Op1.extract (v := .agg #[.int .i64 _, .int .i64 _]) rfl rfl ?_)
            refine RunL.cons (Op1.extract (v := .bool _) rfl rfl ?_)
            refine RunL.cons (Op1.alloc hst ty47 fun w b14 hst => ?_)
            refine RunL.cons (Op1.alloc hst ty47 fun w b15 hst => ?_)
            refine RunL.cons (Op1.store (v := .agg #[.int .i64 _, .int .i64 _]) hst ty47 rfl rfl rfl rfl rfl (.there (.here)) (by repeat (first | exact Put.nil | apply Put.put | apply Put.skip)) fun w hst => ?_)
            refine RunL.cons (Op1.store (v := .agg #[.int .i64 _, .int .i64 _]) hst ty47 rfl rfl rfl rfl rfl (.here) (by repeat (first | exact Put.nil | apply Put.put | apply Put.skip)) fun w hst => ?_)
            refine RunL.cons (Op1.assign (v := .bool _) rfl ?_)
            refine RunL.nil ?_
            refine run_seq ?_
            refine run_seq ?_
            refine run_region ?_
            refine RunL.cons (Op1.assign (v := .int .i64 _) rfl ?_)
            refine RunL.nil ?_
            refine run_block ?_
            refine run_loop ?_
            have sta11 := hst.static (L1 := [])
            replace hst := hst.toD (L1 := [])
            refine Run.indS (fun (i : Nat) => [(17, .int .i64 (i : Int))]) [1, 5, 11, 14, 15, 16] (fun (i : Nat) => []) (fun (i : Nat) => i ≤ l.length) (fun (i : Nat) => l.length - i) 0 hst (Nat.zero_le _) ⟨rfl, trivial⟩ (Keep.refl _ _) ?_
            intro i f w kf12 hst hJ ih13
            replace hst := hst.back sta11
            refine Run.slots (sl := [(1, .int .i64 _), (5, .pointer (some ⟨_, _, none⟩)), (11, .slice _ _ _), (14, .pointer (some ⟨_, _, none⟩)), (15, .pointer (some ⟨_, _, none⟩)), (16, .bool _)]) ⟨(kf12.get 1 rfl).trans rfl, (kf12.get 5 rfl).trans rfl, (kf12.get 11 rfl).trans rfl, (kf12.get 14 rfl).trans rfl, (kf12.get 15 rfl).trans rfl, (kf12.get 16 rfl).trans rfl, trivial⟩ ?_
            refine run_seq ?_
            refine run_seq ?_
            refine run_region ?_
            refine RunL.cons (Op1.move (v := .int .i64 _) rfl ?_)
            refine RunL.cons (Op1.move (v := .slice _ _ _) rfl ?_)
            refine RunL.cons (Op1.lenSl (rest := []) ty50 rfl ?_)
            refine RunL.cons (Op1.lss rfl rfl ?_)
            refine RunL.nil ?_
            refine run_cond_dec rfl (fun g14 => ?_) (fun g14 => ?_)
            · skip
              have hf := row_facts hpic hB hl (j := ((i : Int)).toNat) (by omega)
              have hso : 0 < (i : Int) → (l.getD ((i : Int) - 1).toNat (0, 0, 0)).1 < (l.getD ((i : Int)).toNat (0, 0, 0)).1 := fun h => hf.sort _ (by omega)
              have hnum := hf.num
              have hbb := hbd.2 ((i : Int)).toNat (by omega)
              refine run_skip ?_
              refine run_seq ?_
              refine run_block ?_
              refine run_seq ?_
              refine run_region ?_
              refine RunL.cons (Op1.move (v := .slice _ _ _) rfl ?_)
              refine RunL.cons (Op1.move (v := .int .i64 _) rfl ?_)
              obtain ⟨bs15, rfl⟩ := Res.sl_some (hst.hL _ (.tail _ (.tail _ (.head _)))) (by omega)
              refine RunL.cons (Op1.indexSl ty50 ty56 rfl rfl (by omega) (by omega) ?_)
              refine RunL.cons (Op1.loadA (vs := [.int .i64 _, .int .i64 _, .int .i64 _]) ty56 rfl rfl rfl (Res.sl_cells (k := 3) (hst.hL _ (.tail _ (.tail _ (.head _)))) _ (flat_seg (g := rowC) (d := (0, 0, 0)) rowC_len _ _ (by omega))) ?_)
              refine RunL.cons (Op1.alloc hst ty56 fun w b18 hst => ?_)
              refine RunL.cons (Op1.store (v := .agg #[.int .i64 _, .int .i64 _, .int .i64 _]) hst ty56 rfl rfl rfl rfl rfl (.here) (by repeat (first | exact Put.nil | apply Put.put | apply Put.skip)) fun w hst => ?_)
              refine RunL.nil ?_
              refine run_seq ?_
              refine run_seq ?_
              refine RunD.start [] hst (bs := [0, 1, 3, 7, 7, 23, 63, 127, 255, 7, 519, 2047, 4095, 8191, 16383, 32767, 16383, 81919, 262143, 524287, 1048575, 2097151, 4194303, 8388607, 16777215, 33554431, 67108863, 33554431, 167772159, 536870911, 1073741823, 2147483647, 4294967295, 8589934591, 4294967295, 21474836479, 68719476735, 137438953471, 274877906943, 549755813887, 1099511627775, 549755813887, 2748779069439, 8796093022207, 17592186044415, 35184372088831, 70368744177663, 140737488355327, 70368744177663, 351843720888319, 1125899906842623, 2251799813685247]) (ds := [some 90, some 91, some 92, some 93, some 94, some 95, some 96, some 97, some 98, some 99, some 100, some 101, some 102, some 103, some 104, some 105, some 106, some 107, some 108, some 109, some 110, some 111, some 112, some 113, some 114, some 115, some 116, some 117, some 118, some 119, some 120, some 121, some 122, some 123, some 124, some 125, some 126, some 127, some 128, some 129, some 130, some 131, some 132, some 133, some 134, some 135, some 136, some 137, some 138, some 139, some 140, some 141]) ⟨by kernel_rfl, by kernel_rfl, by kernel_rfl⟩ (fun tab16 => ?_)
              refine RunD.op (det _) tab16 1 (fun f' L' w' hc => Op1.move (v := .int .i64 _) (hc.old (v := .int .i64 _) rfl rfl rfl) ⟨[], ⟨rfl, rfl⟩, hc.st⟩) ?_
              refine RunD.op (det _) tab16 2 (fun f' L' w' hc => Op1.gtr (hc.det (j := 0) rfl rfl rfl rfl) rfl ⟨[], ⟨rfl, rfl⟩, hc.st⟩) ?_
              refine RunD.op (det _) tab16 3 (fun f' L' w' hc => Op1.move (v := .bool _) (hc.det (j := 1) rfl rfl rfl rfl) ⟨[], ⟨rfl, rfl⟩, hc.st⟩) ?_
              refine RunD.splitD (j := 2) rfl (fun g17 => ?_) (fun g17 => ?_)
              · skip
                refine RunD.take (det _) tab16 4 rfl (fun f' L' w' hc => (hc.det (j := 2) rfl rfl rfl rfl).trans (congrArg Value.bool (decide_eq_true g17))) (fun f' L' w' hc => Op1.move (v := .slice _ _ _) (hc.old (v := .slice _ _ _) rfl rfl rfl) ⟨[], ⟨rfl, rfl⟩, hc.st⟩) ?_
                refine RunD.take (det _) tab16 5 rfl (fun f' L' w' hc => (hc.det (j := 2) rfl rfl rfl rfl).trans (congrArg Value.bool (decide_eq_true g17))) (fun f' L' w' hc => Op1.move (v := .int .i64 _) (hc.old (v := .int .i64 _) rfl rfl rfl) ⟨[], ⟨rfl, rfl⟩, hc.st⟩) ?_
                refine RunD.take (det _) tab16 6 rfl (fun f' L' w' hc => (hc.det (j := 2) rfl rfl rfl rfl).trans (congrArg Value.bool (decide_eq_true g17))) (fun f' L' w' hc => Op1.subN (hc.det (j := 4) rfl rfl rfl rfl) rfl rfl (wrap_i64 (by omega) (by omega)) ⟨[], ⟨rfl, rfl⟩, hc.st⟩) ?_
                refine RunD.take (det _) tab16 7 rfl (fun f' L' w' hc => (hc.det (j := 2) rfl rfl rfl rfl).trans (congrArg Value.bool (decide_eq_true g17))) (fun f' L' w' hc => Op1.indexSl ty50 ty56 (hc.det (j := 3) rfl rfl rfl rfl) (hc.det (j := 5) rfl rfl rfl rfl) (by omega) (by omega) ⟨[], ⟨rfl, rfl⟩, hc.st⟩) ?_
                refine RunD.take (det _) tab16 8 rfl (fun f' L' w' hc => (hc.det (j := 2) rfl rfl rfl rfl).trans (congrArg Value.bool (decide_eq_true g17))) (fun f' L' w' hc => Op1.fieldAddr fld56_0 (hc.det (j := 6) rfl rfl rfl rfl) ⟨[], ⟨rfl, rfl⟩, hc.st⟩) ?_
                refine RunD.take (det _) tab16 9 rfl (fun f' L' w' hc => (hc.det (j := 2) rfl rfl rfl rfl).trans (congrArg Value.bool (decide_eq_true g17))) (fun f' L' w' hc => Op1.load1 (v := .int .i64 _) ty3 rfl (hc.det (j := 7) rfl rfl rfl rfl) (Res.sl_cell (hc.st.hL _ (List.mem_append_right _ (.tail _ (.tail _ (.tail _ (.head _)))))) (flat_cell (g := rowC) (d := (0, 0, 0)) rowC_len rfl (by omega))) ⟨[], ⟨rfl, rfl⟩, hc.st⟩) ?_
                refine RunD.take (det _) tab16 10 rfl (fun f' L' w' hc => (hc.det (j := 2) rfl rfl rfl rfl).trans (congrArg Value.bool (decide_eq_true g17))) (fun f' L' w' hc => Op1.fieldAddr fld56_0 (hc.old (v := .pointer (some ⟨_, _, none⟩)) rfl rfl rfl) ⟨[], ⟨rfl, rfl⟩, hc.st⟩) ?_
                refine RunD.take (det _) tab16 11 rfl (fun f' L' w' hc => (hc.det (j := 2) rfl rfl rfl rfl).trans (congrArg Value.bool (decide_eq_true g17))) (fun f' L' w' hc => Op1.load1 (v := .int .i64 _) ty3 rfl (hc.det (j := 9) rfl rfl rfl rfl) (hc.st.cellL (List.mem_append_right _ (.head _)) rfl) ⟨[], ⟨rfl, rfl⟩, hc.st⟩) ?_
                refine RunD.take (det _) tab16 12 rfl (fun f' L' w' hc => (hc.det (j := 2) rfl rfl rfl rfl).trans (congrArg Value.bool (decide_eq_true g17))) (fun f' L' w' hc => Op1.geq (hc.det (j := 8) rfl rfl rfl rfl) (hc.det (j := 10) rfl rfl rfl rfl) ⟨[], ⟨rfl, rfl⟩, hc.st⟩) ?_
                refine RunD.op (det _) tab16 13 (fun f' L' w' hc => Op1.pickT (u := .bool _) (((hc.det (j := 2) rfl rfl rfl rfl)).trans (congrArg Value.bool (decide_eq_true g17))) (hc.det (j := 11) rfl rfl rfl rfl) ⟨[], ⟨rfl, rfl⟩, hc.st⟩) ?_
                refine RunD.op (det _) tab16 14 (fun f' L' w' hc => Op1.move (v := .bool _) (hc.det (j := 12) rfl rfl rfl rfl) ⟨[], ⟨rfl, rfl⟩, hc.st⟩) ?_
                refine RunD.splitD (j := 13) rfl (fun g18 => ?_) (fun g18 => ?_)
                · skip
                  exfalso
                  omega
                · skip
                  refine RunD.take (det _) tab16 15 rfl (fun f' L' w' hc => (hc.det (j := 13) rfl rfl rfl rfl).trans (congrArg Value.bool (decide_eq_false g18))) (fun f' L' w' hc => Op1.fieldAddr fld56_1 (hc.old (v := .pointer (some ⟨_, _, none⟩)) rfl rfl rfl) ⟨[], ⟨rfl, rfl⟩, hc.st⟩) ?_
                  refine RunD.take (det _) tab16 16 rfl (fun f' L' w' hc => (hc.det (j := 13) rfl rfl rfl rfl).trans (congrArg Value.bool (decide_eq_false g18))) (fun f' L' w' hc => Op1.load1 (v := .int .i64 _) ty3 rfl (hc.det (j := 14) rfl rfl rfl rfl) (hc.st.cellL (List.mem_append_right _ (.head _)) rfl) ⟨[], ⟨rfl, rfl⟩, hc.st⟩) ?_
                  refine RunD.take (det _) tab16 17 rfl (fun f' L' w' hc => (hc.det (j := 13) rfl rfl rfl rfl).trans (congrArg Value.bool (decide_eq_false g18))) (fun f' L' w' hc => Op1.fieldAddr fld56_2 (hc.old (v := .pointer (some ⟨_, _, none⟩)) rfl rfl rfl) ⟨[], ⟨rfl, rfl⟩, hc.st⟩) ?_
                  refine RunD.take (det _) tab16 18 rfl (fun f' L' w' hc => (hc.det (j := 13) rfl rfl rfl rfl).trans (congrArg Value.bool (decide_eq_false g18))) (fun f' L' w' hc => Op1.load1 (v := .int .i64 _) ty3 rfl (hc.det (j := 16) rfl rfl rfl rfl) (hc.st.cellL (List.mem_append_right _ (.head _)) rfl) ⟨[], ⟨rfl, rfl⟩, hc.st⟩) ?_
                  refine RunD.take (det _) tab16 19 rfl (fun f' L' w' hc => (hc.det (j := 13) rfl rfl rfl rfl).trans (congrArg Value.bool (decide_eq_false g18))) (fun f' L' w' hc => Op1.geq (hc.det (j := 15) rfl rfl rfl rfl) (hc.det (j := 17) rfl rfl rfl rfl) ⟨[], ⟨rfl, rfl⟩, hc.st⟩) ?_
                  refine RunD.op (det _) tab16 20 (fun f' L' w' hc => Op1.pickF (u := .bool _) (((hc.det (j := 13) rfl rfl rfl rfl)).trans (congrArg Value.bool (decide_eq_false g18))) (hc.det (j := 18) rfl rfl rfl rfl) ⟨[], ⟨rfl, rfl⟩, hc.st⟩) ?_
                  refine RunD.op (det _) tab16 21 (fun f' L' w' hc => Op1.move (v := .bool _) (hc.det (j := 19) rfl rfl rfl rfl) ⟨[], ⟨rfl, rfl⟩, hc.st⟩) ?_
                  refine RunD.splitD (j := 20) rfl (fun g19 => ?_) (fun g19 => ?_)
                  · skip
                    exfalso
                    omega
                  · skip
                    refine RunD.take (det _) tab16 22 rfl (fun f' L' w' hc => (hc.det (j := 20) rfl rfl rfl rfl).trans (congrArg Value.bool (decide_eq_false g19))) (fun f' L' w' hc => Op1.move (v := .bool _) (hc.old (v := .bool _) rfl rfl rfl) ⟨[], ⟨rfl, rfl⟩, hc.st⟩) ?_
                    refine RunD.take (det _) tab16 23 rfl (fun f' L' w' hc => (hc.det (j := 20) rfl rfl rfl rfl).trans (congrArg Value.bool (decide_eq_false g19))) (fun f' L' w' hc => Op1.not (hc.det (j := 21) rfl rfl rfl rfl) ⟨[], ⟨rfl, rfl⟩, hc.st⟩) ?_
                    refine RunD.op (det _) tab16 24 (fun f' L' w' hc => Op1.pickF (u := .bool _) (((hc.det (j := 20) rfl rfl rfl rfl)).trans (congrArg Value.bool (decide_eq_false g19))) (hc.det (j := 22) rfl rfl rfl rfl) ⟨[], ⟨rfl, rfl⟩, hc.st⟩) ?_
                    refine RunD.op (det _) tab16 25 (fun f' L' w' hc => Op1.move (v := .bool _) (hc.det (j := 23) rfl rfl rfl rfl) ⟨[], ⟨rfl, rfl⟩, hc.st⟩) ?_
                    refine RunD.split (j := 24) rfl (fun g20 => ?_) (fun g20 => ?_)
                    · skip
                      exfalso
                      rw [hf.is] at g20; cases g20
                    · skip
                      refine RunD.take (det _) tab16 26 rfl (fun f' L' w' hc => (hc.det (j := 24) rfl rfl rfl rfl).trans (congrArg Value.bool g20)) (fun f' L' w' hc => Op1.fieldAddr fld56_0 (hc.old (v := .pointer (some ⟨_, _, none⟩)) rfl rfl rfl) ⟨[], ⟨rfl, rfl⟩, hc.st⟩) ?_
                      refine RunD.take (det _) tab16 27 rfl (fun f' L' w' hc => (hc.det (j := 24) rfl rfl rfl rfl).trans (congrArg Value.bool g20)) (fun f' L' w' hc => Op1.load1 (v := .int .i64 _) ty3 rfl (hc.det (j := 25) rfl rfl rfl rfl) (hc.st.cellL (List.mem_append_right _ (.head _)) rfl) ⟨[], ⟨rfl, rfl⟩, hc.st⟩) ?_
                      refine RunD.take (det _) tab16 28 rfl (fun f' L' w' hc => (hc.det (j := 24) rfl rfl rfl rfl).trans (congrArg Value.bool g20)) (fun f' L' w' hc => Op1.fieldAddr fld47_0 (hc.old (v := .pointer (some ⟨_, _, none⟩)) rfl rfl rfl) ⟨[], ⟨rfl, rfl⟩, hc.st⟩) ?_
                      refine RunD.take (det _) tab16 29 rfl (fun f' L' w' hc => (hc.det (j := 24) rfl rfl rfl rfl).trans (congrArg Value.bool g20)) (fun f' L' w' hc => Op1.load1 (v := .int .i64 _) ty3 rfl (hc.det (j := 27) rfl rfl rfl rfl) (hc.st.cellL (List.mem_append_right _ (.tail _ (.head _))) rfl) ⟨[], ⟨rfl, rfl⟩, hc.st⟩) ?_
                      refine RunD.take (det _) tab16 30 rfl (fun f' L' w' hc => (hc.det (j := 24) rfl rfl rfl rfl).trans (congrArg Value.bool g20)) (fun f' L' w' hc => Op1.lss (hc.det (j := 26) rfl rfl rfl rfl) (hc.det (j := 28) rfl rfl rfl rfl) ⟨[], ⟨rfl, rfl⟩, hc.st⟩) ?_
                      refine RunD.op (det _) tab16 31 (fun f' L' w' hc => Op1.pickF (u := .bool _) (((hc.det (j := 24) rfl rfl rfl rfl)).trans (congrArg Value.bool g20)) (hc.det (j := 29) rfl rfl rfl rfl) ⟨[], ⟨rfl, rfl⟩, hc.st⟩) ?_
                      refine RunD.op (det _) tab16 32 (fun f' L' w' hc => Op1.move (v := .bool _) (hc.det (j := 30) rfl rfl rfl rfl) ⟨[], ⟨rfl, rfl⟩, hc.st⟩) ?_
                      refine RunD.splitD (j := 31) rfl (fun g21 => ?_) (fun g21 => ?_)
                      · skip
                        exfalso
                        omega
                      · skip
                        refine RunD.take (det _) tab16 33 rfl (fun f' L' w' hc => (hc.det (j := 31) rfl rfl rfl rfl).trans (congrArg Value.bool (decide_eq_false g21))) (fun f' L' w' hc => Op1.fieldAddr fld56_0 (hc.old (v := .pointer (some ⟨_, _, none⟩)) rfl rfl rfl) ⟨[], ⟨rfl, rfl⟩, hc.st⟩) ?_
                        refine RunD.take (det _) tab16 34 rfl (fun f' L' w' hc => (hc.det (j := 31) rfl rfl rfl rfl).trans (congrArg Value.bool (decide_eq_false g21))) (fun f' L' w' hc => Op1.load1 (v := .int .i64 _) ty3 rfl (hc.det (j := 32) rfl rfl rfl rfl) (hc.st.cellL (List.mem_append_right _ (.head _)) rfl) ⟨[], ⟨rfl, rfl⟩, hc.st⟩) ?_
                        refine RunD.take (det _) tab16 35 rfl (fun f' L' w' hc => (hc.det (j := 31) rfl rfl rfl rfl).trans (congrArg Value.bool (decide_eq_false g21))) (fun f' L' w' hc => Op1.fieldAddr fld47_1 (hc.old (v := .pointer (some ⟨_, _, none⟩)) rfl rfl rfl) ⟨[], ⟨rfl, rfl⟩, hc.st⟩) ?_
                        refine RunD.take (det _) tab16 36 rfl (fun f' L' w' hc => (hc.det (j := 31) rfl rfl rfl rfl).trans (congrArg Value.bool (decide_eq_false g21))) (fun f' L' w' hc => Op1.load1 (v := .int .i64 _) ty3 rfl (hc.det (j := 34) rfl rfl rfl rfl) (hc.st.cellL (List.mem_append_right _ (.tail _ (.head _))) rfl) ⟨[], ⟨rfl, rfl⟩, hc.st⟩) ?_
                        refine RunD.take (det _) tab16 37 rfl (fun f' L' w' hc => (hc.det (j := 31) rfl rfl rfl rfl).trans (congrArg Value.bool (decide_eq_false g21))) (fun f' L' w' hc => Op1.geq (hc.det (j := 33) rfl rfl rfl rfl) (hc.det (j := 35) rfl rfl rfl rfl) ⟨[], ⟨rfl, rfl⟩, hc.st⟩) ?_
                        refine RunD.op (det _) tab16 38 (fun f' L' w' hc => Op1.pickF (u := .bool _) (((hc.det (j := 31) rfl rfl rfl rfl)).trans (congrArg Value.bool (decide_eq_false g21))) (hc.det (j := 36) rfl rfl rfl rfl) ⟨[], ⟨rfl, rfl⟩, hc.st⟩) ?_
                        refine RunD.op (det _) tab16 39 (fun f' L' w' hc => Op1.move (v := .bool _) (hc.det (j := 37) rfl rfl rfl rfl) ⟨[], ⟨rfl, rfl⟩, hc.st⟩) ?_
                        refine RunD.splitD (j := 38) rfl (fun g22 => ?_) (fun g22 => ?_)
                        · skip
                          exfalso
                          omega
                        · skip
                          refine RunD.take (det _) tab16 40 rfl (fun f' L' w' hc => (hc.det (j := 38) rfl rfl rfl rfl).trans (congrArg Value.bool (decide_eq_false g22))) (fun f' L' w' hc => Op1.fieldAddr fld56_1 (hc.old (v := .pointer (some ⟨_, _, none⟩)) rfl rfl rfl) ⟨[], ⟨rfl, rfl⟩, hc.st⟩) ?_
                          refine RunD.take (det _) tab16 41 rfl (fun f' L' w' hc => (hc.det (j := 38) rfl rfl rfl rfl).trans (congrArg Value.bool (decide_eq_false g22))) (fun f' L' w' hc => Op1.load1 (v := .int .i64 _) ty3 rfl (hc.det (j := 39) rfl rfl rfl rfl) (hc.st.cellL (List.mem_append_right _ (.head _)) rfl) ⟨[], ⟨rfl, rfl⟩, hc.st⟩) ?_
                          refine RunD.take (det _) tab16 42 rfl (fun f' L' w' hc => (hc.det (j := 38) rfl rfl rfl rfl).trans (congrArg Value.bool (decide_eq_false g22))) (fun f' L' w' hc => Op1.fieldAddr fld47_0 (hc.old (v := .pointer (some ⟨_, _, none⟩)) rfl rfl rfl) ⟨[], ⟨rfl, rfl⟩, hc.st⟩) ?_
                          refine RunD.take (det _) tab16 43 rfl (fun f' L' w' hc => (hc.det (j := 38) rfl rfl rfl rfl).trans (congrArg Value.bool (decide_eq_false g22))) (fun f' L' w' hc => Op1.load1 (v := .int .i64 _) ty3 rfl (hc.det (j := 41) rfl rfl rfl rfl) (hc.st.cellL (List.mem_append_right _ (.tail _ (.tail _ (.head _)))) rfl) ⟨[], ⟨rfl, rfl⟩, hc.st⟩) ?_
                          refine RunD.take (det _) tab16 44 rfl (fun f' L' w' hc => (hc.det (j := 38) rfl rfl rfl rfl).trans (congrArg Value.bool (decide_eq_false g22))) (fun f' L' w' hc => Op1.lss (hc.det (j := 40) rfl rfl rfl rfl) (hc.det (j := 42) rfl rfl rfl rfl) ⟨[], ⟨rfl, rfl⟩, hc.st⟩) ?_
                          refine RunD.op (det _) tab16 45 (fun f' L' w' hc => Op1.pickF (u := .bool _) (((hc.det (j := 38) rfl rfl rfl rfl)).trans (congrArg Value.bool (decide_eq_false g22))) (hc.det (j := 43) rfl rfl rfl rfl) ⟨[], ⟨rfl, rfl⟩, hc.st⟩) ?_
                          refine RunD.op (det _) tab16 46 (fun f' L' w' hc => Op1.move (v := .bool _) (hc.det (j := 44) rfl rfl rfl rfl) ⟨[], ⟨rfl, rfl⟩, hc.st⟩) ?_
                          refine RunD.splitD (j := 45) rfl (fun g23 => ?_) (fun g23 => ?_)
                          · skip
                            exfalso
                            omega
                          · skip
                            refine RunD.take (det _) tab16 47 rfl (fun f' L' w' hc => (hc.det (j := 45) rfl rfl rfl rfl).trans (congrArg Value.bool (decide_eq_false g23))) (fun f' L' w' hc => Op1.fieldAddr fld56_2 (hc.old (v := .pointer (some ⟨_, _, none⟩)) rfl rfl rfl) ⟨[], ⟨rfl, rfl⟩, hc.st⟩) ?_
                            refine RunD.take (det _) tab16 48 rfl (fun f' L' w' hc => (hc.det (j := 45) rfl rfl rfl rfl).trans (congrArg Value.bool (decide_eq_false g23))) (fun f' L' w' hc => Op1.load1 (v := .int .i64 _) ty3 rfl (hc.det (j := 46) rfl rfl rfl rfl) (hc.st.cellL (List.mem_append_right _ (.head _)) rfl) ⟨[], ⟨rfl, rfl⟩, hc.st⟩) ?_
                            refine RunD.take (det _) tab16 49 rfl (fun f' L' w' hc => (hc.det (j := 45) rfl rfl rfl rfl).trans (congrArg Value.bool (decide_eq_false g23))) (fun f' L' w' hc => Op1.fieldAddr fld47_1 (hc.old (v := .pointer (some ⟨_, _, none⟩)) rfl rfl rfl) ⟨[], ⟨rfl, rfl⟩, hc.st⟩) ?_
                            refine RunD.take (det _) tab16 50 rfl (fun f' L' w' hc => (hc.det (j := 45) rfl rfl rfl rfl).trans (congrArg Value.bool (decide_eq_false g23))) (fun f' L' w' hc => Op1.load1 (v := .int .i64 _) ty3 rfl (hc.det (j := 48) rfl rfl rfl rfl) (hc.st.cellL (List.mem_append_right _ (.tail _ (.tail _ (.head _)))) rfl) ⟨[], ⟨rfl, rfl⟩, hc.st⟩) ?_
                            refine RunD.fin followsMixed tab16 hst rfl (fun f24 w R27 hs25 hd26 hr28 hst => ?_)
                            obtain ⟨h90_, r0⟩ := hd26 0 90 rfl rfl
                            obtain ⟨h91_, r1⟩ := hd26 1 91 rfl rfl
                            obtain ⟨h92_, r2⟩ := hd26 2 92 rfl rfl
                            obtain ⟨h93_, r3⟩ := hd26 3 93 rfl rfl
                            obtain ⟨h94_, r4⟩ := hd26 4 94 rfl rfl
                            obtain ⟨h95_, r5⟩ := hd26 5 95 rfl rfl
                            obtain ⟨h96_, r6⟩ := hd26 6 96 rfl rfl
                            obtain ⟨h97_, r7⟩ := hd26 7 97 rfl rfl
                            obtain ⟨h98_, r8⟩ := hd26 8 98 rfl rfl
                            obtain ⟨h99_, r9⟩ := hd26 9 99 rfl rfl
                            obtain ⟨h100_, r10⟩ := hd26 10 100 rfl rfl
                            obtain ⟨h101_, r11⟩ := hd26 11 101 rfl rfl
                            obtain ⟨h102_, r12⟩ := hd26 12 102 rfl rfl
                            obtain ⟨h103_, r13⟩ := hd26 13 103 rfl rfl
                            obtain ⟨h104_, r14⟩ := hd26 14 104 rfl rfl
                            obtain ⟨h105_, r15⟩ := hd26 15 105 rfl rfl
                            obtain ⟨h106_, r16⟩ := hd26 16 106 rfl rfl
                            obtain ⟨h107_, r17⟩ := hd26 17 107 rfl rfl
                            obtain ⟨h108_, r18⟩ := hd26 18 108 rfl rfl
                            obtain ⟨h109_, r19⟩ := hd26 19 109 rfl rfl
                            obtain ⟨h110_, r20⟩ := hd26 20 110 rfl rfl
                            obtain ⟨h111_, r21⟩ := hd26 21 111 rfl rfl
                            obtain ⟨h112_, r22⟩ := hd26 22 112 rfl rfl
                            obtain ⟨h113_, r23⟩ := hd26 23 113 rfl rfl
                            obtain ⟨h114_, r24⟩ := hd26 24 114 rfl rfl
                            obtain ⟨h115_, r25⟩ := hd26 25 115 rfl rfl
                            obtain ⟨h116_, r26⟩ := hd26 26 116 rfl rfl
                            obtain ⟨h117_, r27⟩ := hd26 27 117 rfl rfl
                            obtain ⟨h118_, r28⟩ := hd26 28 118 rfl rfl
                            obtain ⟨h119_, r29⟩ := hd26 29 119 rfl rfl
                            obtain ⟨h120_, r30⟩ := hd26 30 120 rfl rfl
                            obtain ⟨h121_, r31⟩ := hd26 31 121 rfl rfl
                            obtain ⟨h122_, r32⟩ := hd26 32 122 rfl rfl
                            obtain ⟨h123_, r33⟩ := hd26 33 123 rfl rfl
                            obtain ⟨h124_, r34⟩ := hd26 34 124 rfl rfl
                            obtain ⟨h125_, r35⟩ := hd26 35 125 rfl rfl
                            obtain ⟨h126_, r36⟩ := hd26 36 126 rfl rfl
                            obtain ⟨h127_, r37⟩ := hd26 37 127 rfl rfl
                            obtain ⟨h128_, r38⟩ := hd26 38 128 rfl rfl
                            obtain ⟨h129_, r39⟩ := hd26 39 129 rfl rfl
                            obtain ⟨h130_, r40⟩ := hd26 40 130 rfl rfl
                            obtain ⟨h131_, r41⟩ := hd26 41 131 rfl rfl
                            obtain ⟨h132_, r42⟩ := hd26 42 132 rfl rfl
                            obtain ⟨h133_, r43⟩ := hd26 43 133 rfl rfl
                            obtain ⟨h134_, r44⟩ := hd26 44 134 rfl rfl
                            obtain ⟨h135_, r45⟩ := hd26 45 135 rfl rfl
                            obtain ⟨h136_, r46⟩ := hd26 46 136 rfl rfl
                            obtain ⟨h137_, r47⟩ := hd26 47 137 rfl rfl
                            obtain ⟨h138_, r48⟩ := hd26 48 138 rfl rfl
                            obtain ⟨h139_, r49⟩ := hd26 49 139 rfl rfl
                            simp only [show List.range 50 = [0, 1, 2, 3, 4, 5, 6, 7, 8, 9, 10, 11, 12, 13, 14, 15, 16, 17, 18, 19, 20, 21, 22, 23, 24, 25, 26, 27, 28, 29, 30, 31, 32, 33, 34, 35, 36, 37, 38, 39, 40, 41, 42, 43, 44, 45, 46, 47, 48, 49] from rfl, List.flatMap_cons, List.flatMap_nil, List.map_cons, List.map_nil, r0, r1, r2, r3, r4, r5, r6, r7, r8, r9, r10, r11, r12, r13, r14, r15, r16, r17, r18, r19, r20, r21, r22, r23, r24, r25, r26, r27, r28, r29, r30, r31, r32, r33, r34, r35, r36, r37, r38, r39, r40, r41, r42, r43, r44, r45, r46, r47, r48, r49, List.nil_append, List.append_nil, List.cons_append] at hst
                            refine RunL.slots (sl := [(1, .int .i64 _), (5, .pointer (some ⟨_, _, none⟩)), (11, .slice _ _ _), (14, .pointer (some ⟨_, _, none⟩)), (15, .pointer (some ⟨_, _, none⟩)), (16, .bool _), (17, .int .i64 _), (18, .pointer (some ⟨_, _, none⟩)), (135, .bool _), (137, .int .i64 _), (139, .int .i64 _)]) ⟨(hs25 1 rfl).trans rfl, (hs25 5 rfl).trans rfl, (hs25 11 rfl).trans rfl, (hs25 14 rfl).trans rfl, (hs25 15 rfl).trans rfl, (hs25 16 rfl).trans rfl, (hs25 17 rfl).trans rfl, (hs25 18 rfl).trans rfl, h135_, h137_, h139_, trivial⟩ ?_
                            clear hs25 hd26 hr28 tab16
                            refine RunL.take (t := 135) rfl (congrArg Value.bool (decide_eq_false g23)) (Op1.gtr rfl rfl ?_)
                            refine RunL.cons (Op1.pickF (u := .bool _) (congrArg Value.bool (decide_eq_false g23)) rfl ?_)
                            refine RunL.nil ?_
                            refine run_cond_dec rfl (fun g29 => ?_) (fun g29 => ?_)
                            · skip
                              exfalso
                              omega
                            · skip
                              refine run_skip ?_
                              refine run_seq ?_
                              refine run_region ?_
                              refine RunL.cons (Op1.loadA (vs := [.int .i32 _, .int .i32 _, .int .i32 _, .int .i32 _, .int .i32 _, .int .i32 _, .int .i32 _, .int .i32 _, .int .i32 _]) ty27 rfl rfl rfl (cells_of_obj (n := 9) (hst.objL (.tail _ (.tail _ (.tail _ (.tail _ (.head _)))))) _ rfl) ?_)
                              refine RunL.cons (Op1.fieldAddr fld56_1 rfl ?_)
                              refine RunL.cons (Op1.load1 (v := .int .i64 _) ty3 rfl rfl (hst.cellL (.head _) rfl) ?_)
                              refine RunL.cons (Op1.fieldAddr fld56_0 rfl ?_)
                              refine RunL.cons (Op1.load1 (v := .int .i64 _) ty3 rfl rfl (hst.cellL (.head _) rfl) ?_)
                              refine RunL.cons (Op1.call3 (v1 := .agg #[.int .i32 _, .int .i32 _, .int .i32 _, .int .i32 _, .int .i32 _, .int .i32 _, .int .i32 _, .int .i32 _, .int .i32 _]) (v2 := .int .i64 _) (v3 := .int .i64 _) ent34 rfl rfl rfl rfl ((edge_covers _ _ _ _ _ _ _ _ _ _ _ _).mono fun v w hp => ?_))
                              obtain ⟨rfl, hp⟩ := hp
                              replace hst := hst.keepc hp
                              clear hp
                              refine RunL.cons (Op1.not rfl ?_)
                              refine RunL.cons (Op1.move (v := .bool _) rfl ?_)
                              refine RunL.split (d := 149) rfl (fun g30 => ?_) (fun g30 => ?_)
                              · skip
                                exfalso
                                rw [hf.c1] at g30; cases g30
                              · skip
                                refine RunL.take (t := 149) rfl (congrArg Value.bool g30) (Op1.loadA (vs := [.int .i32 _, .int .i32 _, .int .i32 _, .int .i32 _, .int .i32 _, .int .i32 _, .int .i32 _, .int .i32 _, .int .i32 _]) ty27 rfl rfl rfl (cells_of_obj (n := 9) (hst.objL (.tail _ (.tail _ (.tail _ (.tail _ (.head _)))))) _ rfl) ?_)
                                refine RunL.take (t := 149) rfl (congrArg Value.bool g30) (Op1.fieldAddr fld56_2 rfl ?_)
                                refine RunL.take (t := 149) rfl (congrArg Value.bool g30) (Op1.load1 (v := .int .i64 _) ty3 rfl rfl (hst.cellL (.head _) rfl) ?_)
                                refine RunL.take (t := 149) rfl (congrArg Value.bool g30) (Op1.subN rfl rfl rfl (wrap_i64 (by omega) (by omega)) ?_)
                                refine RunL.take (t := 149) rfl (congrArg Value.bool g30) (Op1.fieldAddr fld56_0 rfl ?_)
                                refine RunL.take (t := 149) rfl (congrArg Value.bool g30) (Op1.load1 (v := .int .i64 _) ty3 rfl rfl (hst.cellL (.head _) rfl) ?_)
                                refine RunL.take (t := 149) rfl (congrArg Value.bool g30) (Op1.call3 (v1 := .agg #[.int .i32 _, .int .i32 _, .int .i32 _, .int .i32 _, .int .i32 _, .int .i32 _, .int .i32 _, .int .i32 _, .int .i32 _]) (v2 := .int .i64 _) (v3 := .int .i64 _) ent34 rfl rfl rfl rfl ((edge_covers _ _ _ _ _ _ _ _ _ _ _ _).mono fun v w hp => ?_))
                                obtain ⟨rfl, hp⟩ := hp
                                replace hst := hst.keepc hp
                                clear hp
                                refine RunL.take (t := 149) rfl (congrArg Value.bool g30) (Op1.not rfl ?_)
                                refine RunL.cons (Op1.pickF (u := .bool _) (congrArg Value.bool g30) rfl ?_)
                                refine RunL.cons (Op1.move (v := .bool _) rfl ?_)
                                refine RunL.split (d := 159) rfl (fun g31 => ?_) (fun g31 => ?_)
                                · skip
                                  exfalso
                                  rw [hf.c2] at g31; cases g31
                                · skip
                                  refine RunL.take (t := 159) rfl (congrArg Value.bool g31) (Op1.fieldAddr fld56_1 rfl ?_)
                                  refine RunL.take (t := 159) rfl (congrArg Value.bool g31) (Op1.load1 (v := .int .i64 _) ty3 rfl rfl (hst.cellL (.head _) rfl) ?_)
                                  refine RunL.take (t := 159) rfl (congrArg Value.bool g31) (Op1.gtr rfl rfl ?_)
                                  refine RunL.take (t := 159) rfl (congrArg Value.bool g31) (Op1.move (v := .bool _) rfl ?_)
                                  refine RunL.splitD (d := 163) rfl (fun g32 => ?_) (fun g32 => ?_)
                                  · skip
                                    refine RunL.take (t := 163) rfl (congrArg Value.bool (decide_eq_true g32)) (Op1.loadA (vs := [.int .i32 _, .int .i32 _, .int .i32 _, .int .i32 _, .int .i32 _, .int .i32 _, .int .i32 _, .int .i32 _, .int .i32 _]) ty27 rfl rfl rfl (cells_of_obj (n := 9) (hst.objL (.tail _ (.tail _ (.tail _ (.tail _ (.head _)))))) _ rfl) ?_)
                                    refine RunL.take (t := 163) rfl (congrArg Value.bool (decide_eq_true g32)) (Op1.fieldAddr fld56_1 rfl ?_)
                                    refine RunL.take (t := 163) rfl (congrArg Value.bool (decide_eq_true g32)) (Op1.load1 (v := .int .i64 _) ty3 rfl rfl (hst.cellL (.head _) rfl) ?_)
                                    refine RunL.take (t := 163) rfl (congrArg Value.bool (decide_eq_true g32)) (Op1.subN rfl rfl rfl (wrap_i64 (by omega) (by omega)) ?_)
                                    refine RunL.take (t := 163) rfl (congrArg Value.bool (decide_eq_true g32)) (Op1.fieldAddr fld56_0 rfl ?_)
                                    refine RunL.take (t := 163) rfl (congrArg Value.bool (decide_eq_true g32)) (Op1.load1 (v := .int .i64 _) ty3 rfl rfl (hst.cellL (.head _) rfl) ?_)
                                    refine RunL.take (t := 163) rfl (congrArg Value.bool (decide_eq_true g32)) (Op1.call3 (v1 := .agg #[.int .i32 _, .int .i32 _, .int .i32 _, .int .i32 _, .int .i32 _, .int .i32 _, .int .i32 _, .int .i32 _, .int .i32 _]) (v2 := .int .i64 _) (v3 := .int .i64 _) ent34 rfl rfl rfl rfl ((edge_covers _ _ _ _ _ _ _ _ _ _ _ _).mono fun v w hp => ?_))
                                    obtain ⟨rfl, hp⟩ := hp
                                    replace hst := hst.keepc hp
                                    clear hp
                                    refine RunL.take (t := 159) rfl (congrArg Value.bool g31) (Op1.pickT (u := .bool _) (congrArg Value.bool (decide_eq_true g32)) rfl ?_)
                                    refine RunL.cons (Op1.pickF (u := .bool _) (congrArg Value.bool g31) rfl ?_)
                                    refine RunL.cons (Op1.move (v := .bool _) rfl ?_)
                                    refine RunL.split (d := 173) rfl (fun g33 => ?_) (fun g33 => ?_)
                                    · skip
                                      exfalso
                                      rw [hf.c3 (by omega)] at g33; cases g33
                                    · skip
                                      refine RunL.take (t := 173) rfl (congrArg Value.bool g33) (Op1.fieldAddr fld56_2 rfl ?_)
                                      refine RunL.take (t := 173) rfl (congrArg Value.bool g33) (Op1.load1 (v := .int .i64 _) ty3 rfl rfl (hst.cellL (.head _) rfl) ?_)
                                      refine RunL.take (t := 173) rfl (congrArg Value.bool g33) (Op1.move (v := .int .i64 _) rfl ?_)
                                      refine RunL.take (t := 173) rfl (congrArg Value.bool g33) (Op1.lss rfl rfl ?_)
                                      refine RunL.take (t := 173) rfl (congrArg Value.bool g33) (Op1.move (v := .bool _) rfl ?_)
                                      refine RunL.splitD (d := 178) rfl (fun g34 => ?_) (fun g34 => ?_)
                                      · skip
                                        refine RunL.take (t := 178) rfl (congrArg Value.bool (decide_eq_true g34)) (Op1.loadA (vs := [.int .i32 _, .int .i32 _, .int .i32 _, .int .i32 _, .int .i32 _, .int .i32 _, .int .i32 _, .int .i32 _, .int .i32 _]) ty27 rfl rfl rfl (cells_of_obj (n := 9) (hst.objL (.tail _ (.tail _ (.tail _ (.tail _ (.head _)))))) _ rfl) ?_)
                                        refine RunL.take (t := 178) rfl (congrArg Value.bool (decide_eq_true g34)) (Op1.fieldAddr fld56_2 rfl ?_)
                                        refine RunL.take (t := 178) rfl (congrArg Value.bool (decide_eq_true g34)) (Op1.load1 (v := .int .i64 _) ty3 rfl rfl (hst.cellL (.head _) rfl) ?_)
                                        refine RunL.take (t := 178) rfl (congrArg Value.bool (decide_eq_true g34)) (Op1.fieldAddr fld56_0 rfl ?_)
                                        refine RunL.take (t := 178) rfl (congrArg Value.bool (decide_eq_true g34)) (Op1.load1 (v := .int .i64 _) ty3 rfl rfl (hst.cellL (.head _) rfl) ?_)
                                        refine RunL.take (t := 178) rfl (congrArg Value.bool (decide_eq_true g34)) (Op1.call3 (v1 := .agg #[.int .i32 _, .int .i32 _, .int .i32 _, .int .i32 _, .int .i32 _, .int .i32 _, .int .i32 _, .int .i32 _, .int .i32 _]) (v2 := .int .i64 _) (v3 := .int .i64 _) ent34 rfl rfl rfl rfl ((edge_covers _ _ _ _ _ _ _ _ _ _ _ _).mono fun v w hp => ?_))
                                        obtain ⟨rfl, hp⟩ := hp
                                        replace hst := hst.keepc hp
                                        clear hp
                                        refine RunL.take (t := 173) rfl (congrArg Value.bool g33) (Op1.pickT (u := .bool _) (congrArg Value.bool (decide_eq_true g34)) rfl ?_)
                                        refine RunL.cons (Op1.pickF (u := .bool _) (congrArg Value.bool g33) rfl ?_)
                                        refine RunL.nil ?_
                                        refine run_cond_split rfl (fun g35 => ?_) (fun g35 => ?_)
                                        · skip
                                          exfalso
                                          rw [hf.c4 (by omega)] at g35; cases g35
                                        · skip
                                          refine run_skip ?_
                                          refine run_inBlock ?_
                                          refine run_region ?_
                                          refine RunL.cons (Op1.move (v := .int .i64 _) rfl ?_)
                                          refine RunL.cons (Op1.addN rfl rfl rfl (wrap_i64 (by omega) (by omega)) ?_)
                                          refine RunL.cons (Op1.assign (v := .int .i64 _) rfl ?_)
                                          refine RunL.nil ?_
                                          refine run_inLoop ?_
                                          replace hst := hst.pick (.cons (.there (.here)) (.cons (.there (.here)) (.cons (.there (.here)) (.cons (.there (.here)) .nil))))
                                          replace hst := hst.toD (L1 := [])
                                          exact ih13 (i + 1) _ w (by omega) hst (by omega) ⟨rfl, rfl, rfl, rfl, rfl, rfl, trivial⟩ ⟨(congrArg (Value.int .i64) (by omega)), trivial⟩
                                      · skip
                                        refine RunL.omit (t := 178) rfl (congrArg Value.bool (decide_eq_false g34)) rfl ?_
                                        refine RunL.omit (t := 178) rfl (congrArg Value.bool (decide_eq_false g34)) rfl ?_
                                        refine RunL.omit (t := 178) rfl (congrArg Value.bool (decide_eq_false g34)) rfl ?_
                                        refine RunL.omit (t := 178) rfl (congrArg Value.bool (decide_eq_false g34)) rfl ?_
                                        refine RunL.omit (t := 178) rfl (congrArg Value.bool (decide_eq_false g34)) rfl ?_
                                        refine RunL.omit (t := 178) rfl (congrArg Value.bool (decide_eq_false g34)) rfl ?_
                                        refine RunL.take (t := 173) rfl (congrArg Value.bool g33) (Op1.pickF (u := .bool _) (congrArg Value.bool (decide_eq_false g34)) rfl ?_)
                                        refine RunL.cons (Op1.pickF (u := .bool _) (congrArg Value.bool g33) rfl ?_)
                                        refine RunL.nil ?_
                                        refine run_cond_false (congrArg Value.bool (rfl : false = _)) ?_
                                        refine run_skip ?_
                                        refine run_inBlock ?_
                                        refine run_region ?_
                                        refine RunL.cons (Op1.move (v := .int .i64 _) rfl ?_)
                                        refine RunL.cons (Op1.addN rfl rfl rfl (wrap_i64 (by omega) (by omega)) ?_)
                                        refine RunL.cons (Op1.assign (v := .int .i64 _) rfl ?_)
                                        refine RunL.nil ?_
                                        refine run_inLoop ?_
                                        replace hst := hst.pick (.cons (.there (.here)) (.cons (.there (.here)) (.cons (.there (.here)) (.cons (.there (.here)) .nil))))
                                        replace hst := hst.toD (L1 := [])
                                        exact ih13 (i + 1) _ w (by omega) hst (by omega) ⟨rfl, rfl, rfl, rfl, rfl, rfl, trivial⟩ ⟨(congrArg (Value.int .i64) (by omega)), trivial⟩
                                  · skip
                                    refine RunL.omit (t := 163) rfl (congrArg Value.bool (decide_eq_false g32)) rfl ?_
                                    refine RunL.omit (t := 163) rfl (congrArg Value.bool (decide_eq_false g32)) rfl ?_
                                    refine RunL.omit (t := 163) rfl (congrArg Value.bool (decide_eq_false g32)) rfl ?_
                                    refine RunL.omit (t := 163) rfl (congrArg Value.bool (decide_eq_false g32)) rfl ?_
                                    refine RunL.omit (t := 163) rfl (congrArg Value.bool (decide_eq_false g32)) rfl ?_
                                    refine RunL.omit (t := 163) rfl (congrArg Value.bool (decide_eq_false g32)) rfl ?_
                                    refine RunL.omit (t := 163) rfl (congrArg Value.bool (decide_eq_false g32)) rfl ?_
                                    refine RunL.take (t := 159) rfl (congrArg Value.bool g31) (Op1.pickF (u := .bool _) (congrArg Value.bool (decide_eq_false g32)) rfl ?_)
                                    refine RunL.cons (Op1.pickF (u := .bool _) (congrArg Value.bool g31) rfl ?_)
                                    refine RunL.cons (Op1.move (v := .bool _) rfl ?_)
                                    refine RunL.take (t := 173) rfl (congrArg Value.bool (rfl : false = _)) (Op1.fieldAddr fld56_2 rfl ?_)
                                    refine RunL.take (t := 173) rfl (congrArg Value.bool (rfl : false = _)) (Op1.load1 (v := .int .i64 _) ty3 rfl rfl (hst.cellL (.head _) rfl) ?_)
                                    refine RunL.take (t := 173) rfl (congrArg Value.bool (rfl : false = _)) (Op1.move (v := .int .i64 _) rfl ?_)
                                    refine RunL.take (t := 173) rfl (congrArg Value.bool (rfl : false = _)) (Op1.lss rfl rfl ?_)
                                    refine RunL.take (t := 173) rfl (congrArg Value.bool (rfl : false = _)) (Op1.move (v := .bool _) rfl ?_)
                                    refine RunL.splitD (d := 178) rfl (fun g36 => ?_) (fun g36 => ?_)
                                    · skip
                                      refine RunL.take (t := 178) rfl (congrArg Value.bool (decide_eq_true g36)) (Op1.loadA (vs := [.int .i32 _, .int .i32 _, .int .i32 _, .int .i32 _, .int .i32 _, .int .i32 _, .int .i32 _, .int .i32 _, .int .i32 _]) ty27 rfl rfl rfl (cells_of_obj (n := 9) (hst.objL (.tail _ (.tail _ (.tail _ (.tail _ (.head _)))))) _ rfl) ?_)
                                      refine RunL.take (t := 178) rfl (congrArg Value.bool (decide_eq_true g36)) (Op1.fieldAddr fld56_2 rfl ?_)
                                      refine RunL.take (t := 178) rfl (congrArg Value.bool (decide_eq_true g36)) (Op1.load1 (v := .int .i64 _) ty3 rfl rfl (hst.cellL (.head _) rfl) ?_)
                                      refine RunL.take (t := 178) rfl (congrArg Value.bool (decide_eq_true g36)) (Op1.fieldAddr fld56_0 rfl ?_)
                                      refine RunL.take (t := 178) rfl (congrArg Value.bool (decide_eq_true g36)) (Op1.load1 (v := .int .i64 _) ty3 rfl rfl (hst.cellL (.head _) rfl) ?_)
                                      refine RunL.take (t := 178) rfl (congrArg Value.bool (decide_eq_true g36)) (Op1.call3 (v1 := .agg #[.int .i32 _, .int .i32 _, .int .i32 _, .int .i32 _, .int .i32 _, .int .i32 _, .int .i32 _, .int .i32 _, .int .i32 _]) (v2 := .int .i64 _) (v3 := .int .i64 _) ent34 rfl rfl rfl rfl ((edge_covers _ _ _ _ _ _ _ _ _ _ _ _).mono fun v w hp => ?_))
                                      obtain ⟨rfl, hp⟩ := hp
                                      replace hst := hst.keepc hp
                                      clear hp
                                      refine RunL.take (t := 173) rfl (congrArg Value.bool (rfl : false = _)) (Op1.pickT (u := .bool _) (congrArg Value.bool (decide_eq_true g36)) rfl ?_)
                                      refine RunL.cons (Op1.pickF (u := .bool _) (congrArg Value.bool (rfl : false = _)) rfl ?_)
                                      refine RunL.nil ?_
                                      refine run_cond_split rfl (fun g37 => ?_) (fun g37 => ?_)
                                      · skip
                                        exfalso
                                        rw [hf.c4 (by omega)] at g37; cases g37
                                      · skip
                                        refine run_skip ?_
                                        refine run_inBlock ?_
                                        refine run_region ?_
                                        refine RunL.cons (Op1.move (v := .int .i64 _) rfl ?_)
                                        refine RunL.cons (Op1.addN rfl rfl rfl (wrap_i64 (by omega) (by omega)) ?_)
                                        refine RunL.cons (Op1.assign (v := .int .i64 _) rfl ?_)
                                        refine RunL.nil ?_
                                        refine run_inLoop ?_
                                        replace hst := hst.pick (.cons (.there (.here)) (.cons (.there (.here)) (.cons (.there (.here)) (.cons (.there (.here)) .nil))))
                                        replace hst := hst.toD (L1 := [])
                                        exact ih13 (i + 1) _ w (by omega) hst (by omega) ⟨rfl, rfl, rfl, rfl, rfl, rfl, trivial⟩ ⟨(congrArg (Value.int .i64) (by omega)), trivial⟩
                                    · skip
                                      refine RunL.omit (t := 178) rfl (congrArg Value.bool (decide_eq_false g36)) rfl ?_
                                      refine RunL.omit (t := 178) rfl (congrArg Value.bool (decide_eq_false g36)) rfl ?_
                                      refine RunL.omit (t := 178) rfl (congrArg Value.bool (decide_eq_false g36)) rfl ?_
                                      refine RunL.omit (t := 178) rfl (congrArg Value.bool (decide_eq_false g36)) rfl ?_
                                      refine RunL.omit (t := 178) rfl (congrArg Value.bool (decide_eq_false g36)) rfl ?_
                                      refine RunL.omit (t := 178) rfl (congrArg Value.bool (decide_eq_false g36)) rfl ?_
                                      refine RunL.take (t := 173) rfl (congrArg Value.bool (rfl : false = _)) (Op1.pickF (u := .bool _) (congrArg Value.bool (decide_eq_false g36)) rfl ?_)
                                      refine RunL.cons (Op1.pickF (u := .bool _) (congrArg Value.bool (rfl : false = _)) rfl ?_)
                                      refine RunL.nil ?_
                                      refine run_cond_false (congrArg Value.bool (rfl : false = _)) ?_
                                      refine run_skip ?_
                                      refine run_inBlock ?_
                                      refine run_region ?_
                                      refine RunL.cons (Op1.move (v := .int .i64 _) rfl ?_)
                                      refine RunL.cons (Op1.addN rfl rfl rfl (wrap_i64 (by omega) (by omega)) ?_)
                                      refine RunL.cons (Op1.assign (v := .int .i64 _) rfl ?_)
                                      refine RunL.nil ?_
                                      refine run_inLoop ?_
                                      replace hst := hst.pick (.cons (.there (.here)) (.cons (.there (.here)) (.cons (.there (.here)) (.cons (.there (.here)) .nil))))
                                      replace hst := hst.toD (L1 := [])
                                      exact ih13 (i + 1) _ w (by omega) hst (by omega) ⟨rfl, rfl, rfl, rfl, rfl, rfl, trivial⟩ ⟨(congrArg (Value.int .i64) (by omega)), trivial⟩
              · skip
                refine RunD.omit tab16 4 rfl rfl (fun f' L' w' hc => (hc.det (j := 2) rfl rfl rfl rfl).trans (congrArg Value.bool (decide_eq_false g17))) ?_
                refine RunD.omit tab16 5 rfl rfl (fun f' L' w' hc => (hc.det (j := 2) rfl rfl rfl rfl).trans (congrArg Value.bool (decide_eq_false g17))) ?_
                refine RunD.omit tab16 6 rfl rfl (fun f' L' w' hc => (hc.det (j := 2) rfl rfl rfl rfl).trans (congrArg Value.bool (decide_eq_false g17))) ?_
                refine RunD.omit tab16 7 rfl rfl (fun f' L' w' hc => (hc.det (j := 2) rfl rfl rfl rfl).trans (congrArg Value.bool (decide_eq_false g17))) ?_
                refine RunD.omit tab16 8 rfl rfl (fun f' L' w' hc => (hc.det (j := 2) rfl rfl rfl rfl).trans (congrArg Value.bool (decide_eq_false g17))) ?_
                refine RunD.omit tab16 9 rfl rfl (fun f' L' w' hc => (hc.det (j := 2) rfl rfl rfl rfl).trans (congrArg Value.bool (decide_eq_false g17))) ?_
                refine RunD.omit tab16 10 rfl rfl (fun f' L' w' hc => (hc.det (j := 2) rfl rfl rfl rfl).trans (congrArg Value.bool (decide_eq_false g17))) ?_
                refine RunD.omit tab16 11 rfl rfl (fun f' L' w' hc => (hc.det (j := 2) rfl rfl rfl rfl).trans (congrArg Value.bool (decide_eq_false g17))) ?_
                refine RunD.omit tab16 12 rfl rfl (fun f' L' w' hc => (hc.det (j := 2) rfl rfl rfl rfl).trans (congrArg Value.bool (decide_eq_false g17))) ?_
                refine RunD.op (det _) tab16 13 (fun f' L' w' hc => Op1.pickF (u := .bool _) (((hc.det (j := 2) rfl rfl rfl rfl)).trans (congrArg Value.bool (decide_eq_false g17))) rfl ⟨[], ⟨rfl, rfl⟩, hc.st⟩) ?_
                refine RunD.op (det _) tab16 14 (fun f' L' w' hc => Op1.move (v := .bool _) (hc.det (j := 12) rfl rfl rfl rfl) ⟨[], ⟨rfl, rfl⟩, hc.st⟩) ?_
                refine RunD.take (det _) tab16 15 rfl (fun f' L' w' hc => (hc.det (j := 13) rfl rfl rfl rfl).trans (congrArg Value.bool (rfl : false = _))) (fun f' L' w' hc => Op1.fieldAddr fld56_1 (hc.old (v := .pointer (some ⟨_, _, none⟩)) rfl rfl rfl) ⟨[], ⟨rfl, rfl⟩, hc.st⟩) ?_
                refine RunD.take (det _) tab16 16 rfl (fun f' L' w' hc => (hc.det (j := 13) rfl rfl rfl rfl).trans (congrArg Value.bool (rfl : false = _))) (fun f' L' w' hc => Op1.load1 (v := .int .i64 _) ty3 rfl (hc.det (j := 14) rfl rfl rfl rfl) (hc.st.cellL (List.mem_append_right _ (.head _)) rfl) ⟨[], ⟨rfl, rfl⟩, hc.st⟩) ?_
                refine RunD.take (det _) tab16 17 rfl (fun f' L' w' hc => (hc.det (j := 13) rfl rfl rfl rfl).trans (congrArg Value.bool (rfl : false = _))) (fun f' L' w' hc => Op1.fieldAddr fld56_2 (hc.old (v := .pointer (some ⟨_, _, none⟩)) rfl rfl rfl) ⟨[], ⟨rfl, rfl⟩, hc.st⟩) ?_
                refine RunD.take (det _) tab16 18 rfl (fun f' L' w' hc => (hc.det (j := 13) rfl rfl rfl rfl).trans (congrArg Value.bool (rfl : false = _))) (fun f' L' w' hc => Op1.load1 (v := .int .i64 _) ty3 rfl (hc.det (j := 16) rfl rfl rfl rfl) (hc.st.cellL (List.mem_append_right _ (.head _)) rfl) ⟨[], ⟨rfl, rfl⟩, hc.st⟩) ?_
                refine RunD.take (det _) tab16 19 rfl (fun f' L' w' hc => (hc.det (j := 13) rfl rfl rfl rfl).trans (congrArg Value.bool (rfl : false = _))) (fun f' L' w' hc => Op1.geq (hc.det (j := 15) rfl rfl rfl rfl) (hc.det (j := 17) rfl rfl rfl rfl) ⟨[], ⟨rfl, rfl⟩, hc.st⟩) ?_
                refine RunD.op (det _) tab16 20 (fun f' L' w' hc => Op1.pickF (u := .bool _) (((hc.det (j := 13) rfl rfl rfl rfl)).trans (congrArg Value.bool (rfl : false = _))) (hc.det (j := 18) rfl rfl rfl rfl) ⟨[], ⟨rfl, rfl⟩, hc.st⟩) ?_
                refine RunD.op (det _) tab16 21 (fun f' L' w' hc => Op1.move (v := .bool _) (hc.det (j := 19) rfl rfl rfl rfl) ⟨[], ⟨rfl, rfl⟩, hc.st⟩) ?_
                refine RunD.splitD (j := 20) rfl (fun g38 => ?_) (fun g38 => ?_)
                · skip
                  exfalso
                  omega
                · skip
                  refine RunD.take (det _) tab16 22 rfl (fun f' L' w' hc => (hc.det (j := 20) rfl rfl rfl rfl).trans (congrArg Value.bool (decide_eq_false g38))) (fun f' L' w' hc => Op1.move (v := .bool _) (hc.old (v := .bool _) rfl rfl rfl) ⟨[], ⟨rfl, rfl⟩, hc.st⟩) ?_
                  refine RunD.take (det _) tab16 23 rfl (fun f' L' w' hc => (hc.det (j := 20) rfl rfl rfl rfl).trans (congrArg Value.bool (decide_eq_false g38))) (fun f' L' w' hc => Op1.not (hc.det (j := 21) rfl rfl rfl rfl) ⟨[], ⟨rfl, rfl⟩, hc.st⟩) ?_
                  refine RunD.op (det _) tab16 24 (fun f' L' w' hc => Op1.pickF (u := .bool _) (((hc.det (j := 20) rfl rfl rfl rfl)).trans (congrArg Value.bool (decide_eq_false g38))) (hc.det (j := 22) rfl rfl rfl rfl) ⟨[], ⟨rfl, rfl⟩, hc.st⟩) ?_
                  refine RunD.op (det _) tab16 25 (fun f' L' w' hc => Op1.move (v := .bool _) (hc.det (j := 23) rfl rfl rfl rfl) ⟨[], ⟨rfl, rfl⟩, hc.st⟩) ?_
                  refine RunD.split (j := 24) rfl (fun g39 => ?_) (fun g39 => ?_)
                  · skip
                    exfalso
                    rw [hf.is] at g39; cases g39
                  · skip
                    refine RunD.take (det _) tab16 26 rfl (fun f' L' w' hc => (hc.det (j := 24) rfl rfl rfl rfl).trans (congrArg Value.bool g39)) (fun f' L' w' hc => Op1.fieldAddr fld56_0 (hc.old (v := .pointer (some ⟨_, _, none⟩)) rfl rfl rfl) ⟨[], ⟨rfl, rfl⟩, hc.st⟩) ?_
                    refine RunD.take (det _) tab16 27 rfl (fun f' L' w' hc => (hc.det (j := 24) rfl rfl rfl rfl).trans (congrArg Value.bool g39)) (fun f' L' w' hc => Op1.load1 (v := .int .i64 _) ty3 rfl (hc.det (j := 25) rfl rfl rfl rfl) (hc.st.cellL (List.mem_append_right _ (.head _)) rfl) ⟨[], ⟨rfl, rfl⟩, hc.st⟩) ?_
                    refine RunD.take (det _) tab16 28 rfl (fun f' L' w' hc => (hc.det (j := 24) rfl rfl rfl rfl).trans (congrArg Value.bool g39)) (fun f' L' w' hc => Op1.fieldAddr fld47_0 (hc.old (v := .pointer (some ⟨_, _, none⟩)) rfl rfl rfl) ⟨[], ⟨rfl, rfl⟩, hc.st⟩) ?_
                    refine RunD.take (det _) tab16 29 rfl (fun f' L' w' hc => (hc.det (j := 24) rfl rfl rfl rfl).trans (congrArg Value.bool g39)) (fun f' L' w' hc => Op1.load1 (v := .int .i64 _) ty3 rfl (hc.det (j := 27) rfl rfl rfl rfl) (hc.st.cellL (List.mem_append_right _ (.tail _ (.head _))) rfl) ⟨[], ⟨rfl, rfl⟩, hc.st⟩) ?_
                    refine RunD.take (det _) tab16 30 rfl (fun f' L' w' hc => (hc.det (j := 24) rfl rfl rfl rfl).trans (congrArg Value.bool g39)) (fun f' L' w' hc => Op1.lss (hc.det (j := 26) rfl rfl rfl rfl) (hc.det (j := 28) rfl rfl rfl rfl) ⟨[], ⟨rfl, rfl⟩, hc.st⟩) ?_
                    refine RunD.op (det _) tab16 31 (fun f' L' w' hc => Op1.pickF (u := .bool _) (((hc.det (j := 24) rfl rfl rfl rfl)).trans (congrArg Value.bool g39)) (hc.det (j := 29) rfl rfl rfl rfl) ⟨[], ⟨rfl, rfl⟩, hc.st⟩) ?_
                    refine RunD.op (det _) tab16 32 (fun f' L' w' hc => Op1.move (v := .bool _) (hc.det (j := 30) rfl rfl rfl rfl) ⟨[], ⟨rfl, rfl⟩, hc.st⟩) ?_
                    refine RunD.splitD (j := 31) rfl (fun g40 => ?_) (fun g40 => ?_)
                    · skip
                      exfalso
                      omega
                    · skip
                      refine RunD.take (det _) tab16 33 rfl (fun f' L' w' hc => (hc.det (j := 31) rfl rfl rfl rfl).trans (congrArg Value.bool (decide_eq_false g40))) (fun f' L' w' hc => Op1.fieldAddr fld56_0 (hc.old (v := .pointer (some ⟨_, _, none⟩)) rfl rfl rfl) ⟨[], ⟨rfl, rfl⟩, hc.st⟩) ?_
                      refine RunD.take (det _) tab16 34 rfl (fun f' L' w' hc => (hc.det (j := 31) rfl rfl rfl rfl).trans (congrArg Value.bool (decide_eq_false g40))) (fun f' L' w' hc => Op1.load1 (v := .int .i64 _) ty3 rfl (hc.det (j := 32) rfl rfl rfl rfl) (hc.st.cellL (List.mem_append_right _ (.head _)) rfl) ⟨[], ⟨rfl, rfl⟩, hc.st⟩) ?_
                      refine RunD.take (det _) tab16 35 rfl (fun f' L' w' hc => (hc.det (j := 31) rfl rfl rfl rfl).trans (congrArg Value.bool (decide_eq_false g40))) (fun f' L' w' hc => Op1.fieldAddr fld47_1 (hc.old (v := .pointer (some ⟨_, _, none⟩)) rfl rfl rfl) ⟨[], ⟨rfl, rfl⟩, hc.st⟩) ?_
                      refine RunD.take (det _) tab16 36 rfl (fun f' L' w' hc => (hc.det (j := 31) rfl rfl rfl rfl).trans (congrArg Value.bool (decide_eq_false g40))) (fun f' L' w' hc => Op1.load1 (v := .int .i64 _) ty3 rfl (hc.det (j := 34) rfl rfl rfl rfl) (hc.st.cellL (List.mem_append_right _ (.tail _ (.head _))) rfl) ⟨[], ⟨rfl, rfl⟩, hc.st⟩) ?_
                      refine RunD.take (det _) tab16 37 rfl (fun f' L' w' hc => (hc.det (j := 31) rfl rfl rfl rfl).trans (congrArg Value.bool (decide_eq_false g40))) (fun f' L' w' hc => Op1.geq (hc.det (j := 33) rfl rfl rfl rfl) (hc.det (j := 35) rfl rfl rfl rfl) ⟨[], ⟨rfl, rfl⟩, hc.st⟩) ?_
                      refine RunD.op (det _) tab16 38 (fun f' L' w' hc => Op1.pickF (u := .bool _) (((hc.det (j := 31) rfl rfl rfl rfl)).trans (congrArg Value.bool (decide_eq_false g40))) (hc.det (j := 36) rfl rfl rfl rfl) ⟨[], ⟨rfl, rfl⟩, hc.st⟩) ?_
                      refine RunD.op (det _) tab16 39 (fun f' L' w' hc => Op1.move (v := .bool _) (hc.det (j := 37) rfl rfl rfl rfl) ⟨[], ⟨rfl, rfl⟩, hc.st⟩) ?_
                      refine RunD.splitD (j := 38) rfl (fun g41 => ?_) (fun g41 => ?_)
                      · skip
                        exfalso
                        omega
                      · skip
                        refine RunD.take (det _) tab16 40 rfl (fun f' L' w' hc => (hc.det (j := 38) rfl rfl rfl rfl).trans (congrArg Value.bool (decide_eq_false g41))) (fun f' L' w' hc => Op1.fieldAddr fld56_1 (hc.old (v := .pointer (some ⟨_, _, none⟩)) rfl rfl rfl) ⟨[], ⟨rfl, rfl⟩, hc.st⟩) ?_
                        refine RunD.take (det _) tab16 41 rfl (fun f' L' w' hc => (hc.det (j := 38) rfl rfl rfl rfl).trans (congrArg Value.bool (decide_eq_false g41))) (fun f' L' w' hc => Op1.load1 (v := .int .i64 _) ty3 rfl (hc.det (j := 39) rfl rfl rfl rfl) (hc.st.cellL (List.mem_append_right _ (.head _)) rfl) ⟨[], ⟨rfl, rfl⟩, hc.st⟩) ?_
                        refine RunD.take (det _) tab16 42 rfl (fun f' L' w' hc => (hc.det (j := 38) rfl rfl rfl rfl).trans (congrArg Value.bool (decide_eq_false g41))) (fun f' L' w' hc => Op1.fieldAddr fld47_0 (hc.old (v := .pointer (some ⟨_, _, none⟩)) rfl rfl rfl) ⟨[], ⟨rfl, rfl⟩, hc.st⟩) ?_
                        refine RunD.take (det _) tab16 43 rfl (fun f' L' w' hc => (hc.det (j := 38) rfl rfl rfl rfl).trans (congrArg Value.bool (decide_eq_false g41))) (fun f' L' w' hc => Op1.load1 (v := .int .i64 _) ty3 rfl (hc.det (j := 41) rfl rfl rfl rfl) (hc.st.cellL (List.mem_append_right _ (.tail _ (.tail _ (.head _)))) rfl) ⟨[], ⟨rfl, rfl⟩, hc.st⟩) ?_
                        refine RunD.take (det _) tab16 44 rfl (fun f' L' w' hc => (hc.det (j := 38) rfl rfl rfl rfl).trans (congrArg Value.bool (decide_eq_false g41))) (fun f' L' w' hc => Op1.lss (hc.det (j := 40) rfl rfl rfl rfl) (hc.det (j := 42) rfl rfl rfl rfl) ⟨[], ⟨rfl, rfl⟩, hc.st⟩) ?_
                        refine RunD.op (det _) tab16 45 (fun f' L' w' hc => Op1.pickF (u := .bool _) (((hc.det (j := 38) rfl rfl rfl rfl)).trans (congrArg Value.bool (decide_eq_false g41))) (hc.det (j := 43) rfl rfl rfl rfl) ⟨[], ⟨rfl, rfl⟩, hc.st⟩) ?_
                        refine RunD.op (det _) tab16 46 (fun f' L' w' hc => Op1.move (v := .bool _) (hc.det (j := 44) rfl rfl rfl rfl) ⟨[], ⟨rfl, rfl⟩, hc.st⟩) ?_
                        refine RunD.splitD (j := 45) rfl (fun g42 => ?_) (fun g42 => ?_)
                        · skip
                          exfalso
                          omega
                        · skip
                          refine RunD.take (det _) tab16 47 rfl (fun f' L' w' hc => (hc.det (j := 45) rfl rfl rfl rfl).trans (congrArg Value.bool (decide_eq_false g42))) (fun f' L' w' hc => Op1.fieldAddr fld56_2 (hc.old (v := .pointer (some ⟨_, _, none⟩)) rfl rfl rfl) ⟨[], ⟨rfl, rfl⟩, hc.st⟩) ?_
                          refine RunD.take (det _) tab16 48 rfl (fun f' L' w' hc => (hc.det (j := 45) rfl rfl rfl rfl).trans (congrArg Value.bool (decide_eq_false g42))) (fun f' L' w' hc => Op1.load1 (v := .int .i64 _) ty3 rfl (hc.det (j := 46) rfl rfl rfl rfl) (hc.st.cellL (List.mem_append_right _ (.head _)) rfl) ⟨[], ⟨rfl, rfl⟩, hc.st⟩) ?_
                          refine RunD.take (det _) tab16 49 rfl (fun f' L' w' hc => (hc.det (j := 45) rfl rfl rfl rfl).trans (congrArg Value.bool (decide_eq_false g42))) (fun f' L' w' hc => Op1.fieldAddr fld47_1 (hc.old (v := .pointer (some ⟨_, _, none⟩)) rfl rfl rfl) ⟨[], ⟨rfl, rfl⟩, hc.st⟩) ?_
                          refine RunD.take (det _) tab16 50 rfl (fun f' L' w' hc => (hc.det (j := 45) rfl rfl rfl rfl).trans (congrArg Value.bool (decide_eq_false g42))) (fun f' L' w' hc => Op1.load1 (v := .int .i64 _) ty3 rfl (hc.det (j := 48) rfl rfl rfl rfl) (hc.st.cellL (List.mem_append_right _ (.tail _ (.tail _ (.head _)))) rfl) ⟨[], ⟨rfl, rfl⟩, hc.st⟩) ?_
                          refine RunD.fin followsMixed tab16 hst rfl (fun f43 w R46 hs44 hd45 hr47 hst => ?_)
                          obtain ⟨h90_, r0⟩ := hd45 0 90 rfl rfl
                          obtain ⟨h91_, r1⟩ := hd45 1 91 rfl rfl
                          obtain ⟨h92_, r2⟩ := hd45 2 92 rfl rfl
                          obtain ⟨h93_, r3⟩ := hd45 3 93 rfl rfl
                          obtain ⟨h94_, r4⟩ := hd45 4 94 rfl rfl
                          obtain ⟨h95_, r5⟩ := hd45 5 95 rfl rfl
                          obtain ⟨h96_, r6⟩ := hd45 6 96 rfl rfl
                          obtain ⟨h97_, r7⟩ := hd45 7 97 rfl rfl
                          obtain ⟨h98_, r8⟩ := hd45 8 98 rfl rfl
                          obtain ⟨h99_, r9⟩ := hd45 9 99 rfl rfl
                          obtain ⟨h100_, r10⟩ := hd45 10 100 rfl rfl
                          obtain ⟨h101_, r11⟩ := hd45 11 101 rfl rfl
                          obtain ⟨h102_, r12⟩ := hd45 12 102 rfl rfl
                          obtain ⟨h103_, r13⟩ := hd45 13 103 rfl rfl
                          obtain ⟨h104_, r14⟩ := hd45 14 104 rfl rfl
                          obtain ⟨h105_, r15⟩ := hd45 15 105 rfl rfl
                          obtain ⟨h106_, r16⟩ := hd45 16 106 rfl rfl
                          obtain ⟨h107_, r17⟩ := hd45 17 107 rfl rfl
                          obtain ⟨h108_, r18⟩ := hd45 18 108 rfl rfl
                          obtain ⟨h109_, r19⟩ := hd45 19 109 rfl rfl
                          obtain ⟨h110_, r20⟩ := hd45 20 110 rfl rfl
                          obtain ⟨h111_, r21⟩ := hd45 21 111 rfl rfl
                          obtain ⟨h112_, r22⟩ := hd45 22 112 rfl rfl
                          obtain ⟨h113_, r23⟩ := hd45 23 113 rfl rfl
                          obtain ⟨h114_, r24⟩ := hd45 24 114 rfl rfl
                          obtain ⟨h115_, r25⟩ := hd45 25 115 rfl rfl
                          obtain ⟨h116_, r26⟩ := hd45 26 116 rfl rfl
                          obtain ⟨h117_, r27⟩ := hd45 27 117 rfl rfl
                          obtain ⟨h118_, r28⟩ := hd45 28 118 rfl rfl
                          obtain ⟨h119_, r29⟩ := hd45 29 119 rfl rfl
                          obtain ⟨h120_, r30⟩ := hd45 30 120 rfl rfl
                          obtain ⟨h121_, r31⟩ := hd45 31 121 rfl rfl
                          obtain ⟨h122_, r32⟩ := hd45 32 122 rfl rfl
                          obtain ⟨h123_, r33⟩ := hd45 33 123 rfl rfl
                          obtain ⟨h124_, r34⟩ := hd45 34 124 rfl rfl
                          obtain ⟨h125_, r35⟩ := hd45 35 125 rfl rfl
                          obtain ⟨h126_, r36⟩ := hd45 36 126 rfl rfl
                          obtain ⟨h127_, r37⟩ := hd45 37 127 rfl rfl
                          obtain ⟨h128_, r38⟩ := hd45 38 128 rfl rfl
                          obtain ⟨h129_, r39⟩ := hd45 39 129 rfl rfl
                          obtain ⟨h130_, r40⟩ := hd45 40 130 rfl rfl
                          obtain ⟨h131_, r41⟩ := hd45 41 131 rfl rfl
                          obtain ⟨h132_, r42⟩ := hd45 42 132 rfl rfl
                          obtain ⟨h133_, r43⟩ := hd45 43 133 rfl rfl
                          obtain ⟨h134_, r44⟩ := hd45 44 134 rfl rfl
                          obtain ⟨h135_, r45⟩ := hd45 45 135 rfl rfl
                          obtain ⟨h136_, r46⟩ := hd45 46 136 rfl rfl
                          obtain ⟨h137_, r47⟩ := hd45 47 137 rfl rfl
                          obtain ⟨h138_, r48⟩ := hd45 48 138 rfl rfl
                          obtain ⟨h139_, r49⟩ := hd45 49 139 rfl rfl
                          simp only [show List.range 50 = [0, 1, 2, 3, 4, 5, 6, 7, 8, 9, 10, 11, 12, 13, 14, 15, 16, 17, 18, 19, 20, 21, 22, 23, 24, 25, 26, 27, 28, 29, 30, 31, 32, 33, 34, 35, 36, 37, 38, 39, 40, 41, 42, 43, 44, 45, 46, 47, 48, 49] from rfl, List.flatMap_cons, List.flatMap_nil, List.map_cons, List.map_nil, r0, r1, r2, r3, r4, r5, r6, r7, r8, r9, r10, r11, r12, r13, r14, r15, r16, r17, r18, r19, r20, r21, r22, r23, r24, r25, r26, r27, r28, r29, r30, r31, r32, r33, r34, r35, r36, r37, r38, r39, r40, r41, r42, r43, r44, r45, r46, r47, r48, r49, List.nil_append, List.append_nil, List.cons_append] at hst
                          refine RunL.slots (sl := [(1, .int .i64 _), (5, .pointer (some ⟨_, _, none⟩)), (11, .slice _ _ _), (14, .pointer (some ⟨_, _, none⟩)), (15, .pointer (some ⟨_, _, none⟩)), (16, .bool _), (17, .int .i64 _), (18, .pointer (some ⟨_, _, none⟩)), (135, .bool _), (137, .int .i64 _), (139, .int .i64 _)]) ⟨(hs44 1 rfl).trans rfl, (hs44 5 rfl).trans rfl, (hs44 11 rfl).trans rfl, (hs44 14 rfl).trans rfl, (hs44 15 rfl).trans rfl, (hs44 16 rfl).trans rfl, (hs44 17 rfl).trans rfl, (hs44 18 rfl).trans rfl, h135_, h137_, h139_, trivial⟩ ?_
                          clear hs44 hd45 hr47 tab16
                          refine RunL.take (t := 135) rfl (congrArg Value.bool (decide_eq_false g42)) (Op1.gtr rfl rfl ?_)
                          refine RunL.cons (Op1.pickF (u := .bool _) (congrArg Value.bool (decide_eq_false g42)) rfl ?_)
                          refine RunL.nil ?_
                          refine run_cond_dec rfl (fun g48 => ?_) (fun g48 => ?_)
                          · skip
                            exfalso
                            omega
                          · skip
                            refine run_skip ?_
                            refine run_seq ?_
                            refine run_region ?_
                            refine RunL.cons (Op1.loadA (vs := [.int .i32 _, .int .i32 _, .int .i32 _, .int .i32 _, .int .i32 _, .int .i32 _, .int .i32 _, .int .i32 _, .int .i32 _]) ty27 rfl rfl rfl (cells_of_obj (n := 9) (hst.objL (.tail _ (.tail _ (.tail _ (.tail _ (.head _)))))) _ rfl) ?_)
                            refine RunL.cons (Op1.fieldAddr fld56_1 rfl ?_)
                            refine RunL.cons (Op1.load1 (v := .int .i64 _) ty3 rfl rfl (hst.cellL (.head _) rfl) ?_)
                            refine RunL.cons (Op1.fieldAddr fld56_0 rfl ?_)
                            refine RunL.cons (Op1.load1 (v := .int .i64 _) ty3 rfl rfl (hst.cellL (.head _) rfl) ?_)
                            refine RunL.cons (Op1.call3 (v1 := .agg #[.int .i32 _, .int .i32 _, .int .i32 _, .int .i32 _, .int .i32 _, .int .i32 _, .int .i32 _, .int .i32 _, .int .i32 _]) (v2 := .int .i64 _) (v3 := .int .i64 _) ent34 rfl rfl rfl rfl ((edge_covers _ _ _ _ _ _ _ _ _ _ _ _).mono fun v w hp => ?_))
                            obtain ⟨rfl, hp⟩ := hp
                            replace hst := hst.keepc hp
                            clear hp
                            refine RunL.cons (Op1.not rfl ?_)
                            refine RunL.cons (Op1.move (v := .bool _) rfl ?_)
                            refine RunL.split (d := 149) rfl (fun g49 => ?_) (fun g49 => ?_)
                            · skip
                              exfalso
                              rw [hf.c1] at g49; cases g49
                            · skip
                              refine RunL.take (t := 149) rfl (congrArg Value.bool g49) (Op1.loadA (vs := [.int .i32 _, .int .i32 _, .int .i32 _, .int .i32 _, .int .i32 _, .int .i32 _, .int .i32 _, .int .i32 _, .int .i32 _]) ty27 rfl rfl rfl (cells_of_obj (n := 9) (hst.objL (.tail _ (.tail _ (.tail _ (.tail _ (.head _)))))) _ rfl) ?_)
                              refine RunL.take (t := 149) rfl (congrArg Value.bool g49) (Op1.fieldAddr fld56_2 rfl ?_)
                              refine RunL.take (t := 149) rfl (congrArg Value.bool g49) (Op1.load1 (v := .int .i64 _) ty3 rfl rfl (hst.cellL (.head _) rfl) ?_)
                              refine RunL.take (t := 149) rfl (congrArg Value.bool g49) (Op1.subN rfl rfl rfl (wrap_i64 (by omega) (by omega)) ?_)
                              refine RunL.take (t := 149) rfl (congrArg Value.bool g49) (Op1.fieldAddr fld56_0 rfl ?_)
                              refine RunL.take (t := 149) rfl (congrArg Value.bool g49) (Op1.load1 (v := .int .i64 _) ty3 rfl rfl (hst.cellL (.head _) rfl) ?_)
                              refine RunL.take (t := 149) rfl (congrArg Value.bool g49) (Op1.call3 (v1 := .agg #[.int .i32 _, .int .i32 _, .int .i32 _, .int .i32 _, .int .i32 _, .int .i32 _, .int .i32 _, .int .i32 _, .int .i32 _]) (v2 := .int .i64 _) (v3 := .int .i64 _) ent34 rfl rfl rfl rfl ((edge_covers _ _ _ _ _ _ _ _ _ _ _ _).mono fun v w hp => ?_))
                              obtain ⟨rfl, hp⟩ := hp
                              replace hst := hst.keepc hp
                              clear hp
                              refine RunL.take (t := 149) rfl (congrArg Value.bool g49) (Op1.not rfl ?_)
                              refine RunL.cons (Op1.pickF (u := .bool _) (congrArg Value.bool g49) rfl ?_)
                              refine RunL.cons (Op1.move (v := .bool _) rfl ?_)
                              refine RunL.split (d := 159) rfl (fun g50 => ?_) (fun g50 => ?_)
                              · skip
                                exfalso
                                rw [hf.c2] at g50; cases g50
                              · skip
                                refine RunL.take (t := 159) rfl (congrArg Value.bool g50) (Op1.fieldAddr fld56_1 rfl ?_)
                                refine RunL.take (t := 159) rfl (congrArg Value.bool g50) (Op1.load1 (v := .int .i64 _) ty3 rfl rfl (hst.cellL (.head _) rfl) ?_)
                                refine RunL.take (t := 159) rfl (congrArg Value.bool g50) (Op1.gtr rfl rfl ?_)
                                refine RunL.take (t := 159) rfl (congrArg Value.bool g50) (Op1.move (v := .bool _) rfl ?_)
                                refine RunL.splitD (d := 163) rfl (fun g51 => ?_) (fun g51 => ?_)
                                · skip
                                  refine RunL.take (t := 163) rfl (congrArg Value.bool (decide_eq_true g51)) (Op1.loadA (vs := [.int .i32 _, .int .i32 _, .int .i32 _, .int .i32 _, .int .i32 _, .int .i32 _, .int .i32 _, .int .i32 _, .int .i32 _]) ty27 rfl rfl rfl (cells_of_obj (n := 9) (hst.objL (.tail _ (.tail _ (.tail _ (.tail _ (.head _)))))) _ rfl) ?_)
                                  refine RunL.take (t := 163) rfl (congrArg Value.bool (decide_eq_true g51)) (Op1.fieldAddr fld56_1 rfl ?_)
                                  refine RunL.take (t := 163) rfl (congrArg Value.bool (decide_eq_true g51)) (Op1.load1 (v := .int .i64 _) ty3 rfl rfl (hst.cellL (.head _) rfl) ?_)
                                  refine RunL.take (t := 163) rfl (congrArg Value.bool (decide_eq_true g51)) (Op1.subN rfl rfl rfl (wrap_i64 (by omega) (by omega)) ?_)
                                  refine RunL.take (t := 163) rfl (congrArg Value.bool (decide_eq_true g51)) (Op1.fieldAddr fld56_0 rfl ?_)
                                  refine RunL.take (t := 163) rfl (congrArg Value.bool (decide_eq_true g51)) (Op1.load1 (v := .int .i64 _) ty3 rfl rfl (hst.cellL (.head _) rfl) ?_)
                                  refine RunL.take (t := 163) rfl (congrArg Value.bool (decide_eq_true g51)) (Op1.call3 (v1 := .agg #[.int .i32 _, .int .i32 _, .int .i32 _, .int .i32 _, .int .i32 _, .int .i32 _, .int .i32 _, .int .i32 _, .int .i32 _]) (v2 := .int .i64 _) (v3 := .int .i64 _) ent34 rfl rfl rfl rfl ((edge_covers _ _ _ _ _ _ _ _ _ _ _ _).mono fun v w hp => ?_))
                                  obtain ⟨rfl, hp⟩ := hp
                                  replace hst := hst.keepc hp
                                  clear hp
                                  refine RunL.take (t := 159) rfl (congrArg Value.bool g50) (Op1.pickT (u := .bool _) (congrArg Value.bool (decide_eq_true g51)) rfl ?_)
                                  refine RunL.cons (Op1.pickF (u := .bool _) (congrArg Value.bool g50) rfl ?_)
                                  refine RunL.cons (Op1.move (v := .bool _) rfl ?_)
                                  refine RunL.split (d := 173) rfl (fun g52 => ?_) (fun g52 => ?_)
                                  · skip
                                    exfalso
                                    rw [hf.c3 (by omega)] at g52; cases g52
                                  · skip
                                    refine RunL.take (t := 173) rfl (congrArg Value.bool g52) (Op1.fieldAddr fld56_2 rfl ?_)
                                    refine RunL.take (t := 173) rfl (congrArg Value.bool g52) (Op1.load1 (v := .int .i64 _) ty3 rfl rfl (hst.cellL (.head _) rfl) ?_)
                                    refine RunL.take (t := 173) rfl (congrArg Value.bool g52) (Op1.move (v := .int .i64 _) rfl ?_)
                                    refine RunL.take (t := 173) rfl (congrArg Value.bool g52) (Op1.lss rfl rfl ?_)
                                    refine RunL.take (t := 173) rfl (congrArg Value.bool g52) (Op1.move (v := .bool _) rfl ?_)
                                    refine RunL.splitD (d := 178) rfl (fun g53 => ?_) (fun g53 => ?_)
                                    · skip
                                      refine RunL.take (t := 178) rfl (congrArg Value.bool (decide_eq_true g53)) (Op1.loadA (vs := [.int .i32 _, .int .i32 _, .int .i32 _, .int .i32 _, .int .i32 _, .int .i32 _, .int .i32 _, .int .i32 _, .int .i32 _]) ty27 rfl rfl rfl (cells_of_obj (n := 9) (hst.objL (.tail _ (.tail _ (.tail _ (.tail _ (.head _)))))) _ rfl) ?_)
                                      refine RunL.take (t := 178) rfl (congrArg Value.bool (decide_eq_true g53)) (Op1.fieldAddr fld56_2 rfl ?_)
                                      refine RunL.take (t := 178) rfl (congrArg Value.bool (decide_eq_true g53)) (Op1.load1 (v := .int .i64 _) ty3 rfl rfl (hst.cellL (.head _) rfl) ?_)
                                      refine RunL.take (t := 178) rfl (congrArg Value.bool (decide_eq_true g53)) (Op1.fieldAddr fld56_0 rfl ?_)
                                      refine RunL.take (t := 178) rfl (congrArg Value.bool (decide_eq_true g53)) (Op1.load1 (v := .int .i64 _) ty3 rfl rfl (hst.cellL (.head _) rfl) ?_)
                                      refine RunL.take (t := 178) rfl (congrArg Value.bool (decide_eq_true g53)) (Op1.call3 (v1 := .agg #[.int .i32 _, .int .i32 _, .int .i32 _, .int .i32 _, .int .i32 _, .int .i32 _, .int .i32 _, .int .i32 _, .int .i32 _]) (v2 := .int .i64 _) (v3 := .int .i64 _) ent34 rfl rfl rfl rfl ((edge_covers _ _ _ _ _ _ _ _ _ _ _ _).mono fun v w hp => ?_))
                                      obtain ⟨rfl, hp⟩ := hp
                                      replace hst := hst.keepc hp
                                      clear hp
                                      refine RunL.take (t := 173) rfl (congrArg Value.bool g52) (Op1.pickT (u := .bool _) (congrArg Value.bool (decide_eq_true g53)) rfl ?_)
                                      refine RunL.cons (Op1.pickF (u := .bool _) (congrArg Value.bool g52) rfl ?_)
                                      refine RunL.nil ?_
                                      refine run_cond_split rfl (fun g54 => ?_) (fun g54 => ?_)
                                      · skip
                                        exfalso
                                        rw [hf.c4 (by omega)] at g54; cases g54
                                      · skip
                                        refine run_skip ?_
                                        refine run_inBlock ?_
                                        refine run_region ?_
                                        refine RunL.cons (Op1.move (v := .int .i64 _) rfl ?_)
                                        refine RunL.cons (Op1.addN rfl rfl rfl (wrap_i64 (by omega) (by omega)) ?_)
                                        refine RunL.cons (Op1.assign (v := .int .i64 _) rfl ?_)
                                        refine RunL.nil ?_
                                        refine run_inLoop ?_
                                        replace hst := hst.pick (.cons (.there (.here)) (.cons (.there (.here)) (.cons (.there (.here)) (.cons (.there (.here)) .nil))))
                                        replace hst := hst.toD (L1 := [])
                                        exact ih13 (i + 1) _ w (by omega) hst (by omega) ⟨rfl, rfl, rfl, rfl, rfl, rfl, trivial⟩ ⟨(congrArg (Value.int .i64) (by omega)), trivial⟩
                                    · skip
                                      refine RunL.omit (t := 178) rfl (congrArg Value.bool (decide_eq_false g53)) rfl ?_
                                      refine RunL.omit (t := 178) rfl (congrArg Value.bool (decide_eq_false g53)) rfl ?_
                                      refine RunL.omit (t := 178) rfl (congrArg Value.bool (decide_eq_false g53)) rfl ?_
                                      refine RunL.omit (t := 178) rfl (congrArg Value.bool (decide_eq_false g53)) rfl ?_
                                      refine RunL.omit (t := 178) rfl (congrArg Value.bool (decide_eq_false g53)) rfl ?_
                                      refine RunL.omit (t := 178) rfl (congrArg Value.bool (decide_eq_false g53)) rfl ?_
                                      refine RunL.take (t := 173) rfl (congrArg Value.bool g52) (Op1.pickF (u := .bool _) (congrArg Value.bool (decide_eq_false g53)) rfl ?_)
                                      refine RunL.cons (Op1.pickF (u := .bool _) (congrArg Value.bool g52) rfl ?_)
                                      refine RunL.nil ?_
                                      refine run_cond_false (congrArg Value.bool (rfl : false = _)) ?_
                                      refine run_skip ?_
                                      refine run_inBlock ?_
                                      refine run_region ?_
                                      refine RunL.cons (Op1.move (v := .int .i64 _) rfl ?_)
                                      refine RunL.cons (Op1.addN rfl rfl rfl (wrap_i64 (by omega) (by omega)) ?_)
                                      refine RunL.cons (Op1.assign (v := .int .i64 _) rfl ?_)
                                      refine RunL.nil ?_
                                      refine run_inLoop ?_
                                      replace hst := hst.pick (.cons (.there (.here)) (.cons (.there (.here)) (.cons (.there (.here)) (.cons (.there (.here)) .nil))))
                                      replace hst := hst.toD (L1 := [])
                                      exact ih13 (i + 1) _ w (by omega) hst (by omega) ⟨rfl, rfl, rfl, rfl, rfl, rfl, trivial⟩ ⟨(congrArg (Value.int .i64) (by omega)), trivial⟩
                                · skip
                                  refine RunL.omit (t := 163) rfl (congrArg Value.bool (decide_eq_false g51)) rfl ?_
                                  refine RunL.omit (t := 163) rfl (congrArg Value.bool (decide_eq_false g51)) rfl ?_
                                  refine RunL.omit (t := 163) rfl (congrArg Value.bool (decide_eq_false g51)) rfl ?_
                                  refine RunL.omit (t := 163) rfl (congrArg Value.bool (decide_eq_false g51)) rfl ?_
                                  refine RunL.omit (t := 163) rfl (congrArg Value.bool (decide_eq_false g51)) rfl ?_
                                  refine RunL.omit (t := 163) rfl (congrArg Value.bool (decide_eq_false g51)) rfl ?_
                                  refine RunL.omit (t := 163) rfl (congrArg Value.bool (decide_eq_false g51)) rfl ?_
                                  refine RunL.take (t := 159) rfl (congrArg Value.bool g50) (Op1.pickF (u := .bool _) (congrArg Value.bool (decide_eq_false g51)) rfl ?_)
                                  refine RunL.cons (Op1.pickF (u := .bool _) (congrArg Value.bool g50) rfl ?_)
                                  refine RunL.cons (Op1.move (v := .bool _) rfl ?_)
                                  refine RunL.take (t := 173) rfl (congrArg Value.bool (rfl : false = _)) (Op1.fieldAddr fld56_2 rfl ?_)
                                  refine RunL.take (t := 173) rfl (congrArg Value.bool (rfl : false = _)) (Op1.load1 (v := .int .i64 _) ty3 rfl rfl (hst.cellL (.head _) rfl) ?_)
                                  refine RunL.take (t := 173) rfl (congrArg Value.bool (rfl : false = _)) (Op1.move (v := .int .i64 _) rfl ?_)
                                  refine RunL.take (t := 173) rfl (congrArg Value.bool (rfl : false = _)) (Op1.lss rfl rfl ?_)
                                  refine RunL.take (t := 173) rfl (congrArg Value.bool (rfl : false = _)) (Op1.move (v := .bool _) rfl ?_)
                                  refine RunL.splitD (d := 178) rfl (fun g55 => ?_) (fun g55 => ?_)
                                  · skip
                                    refine RunL.take (t := 178) rfl (congrArg Value.bool (decide_eq_true g55)) (Op1.loadA (vs := [.int .i32 _, .int .i32 _, .int .i32 _, .int .i32 _, .int .i32 _, .int .i32 _, .int .i32 _, .int .i32 _, .int .i32 _]) ty27 rfl rfl rfl (cells_of_obj (n := 9) (hst.objL (.tail _ (.tail _ (.tail _ (.tail _ (.head _)))))) _ rfl) ?_)
                                    refine RunL.take (t := 178) rfl (congrArg Value.bool (decide_eq_true g55)) (Op1.fieldAddr fld56_2 rfl ?_)
                                    refine RunL.take (t := 178) rfl (congrArg Value.bool (decide_eq_true g55)) (Op1.load1 (v := .int .i64 _) ty3 rfl rfl (hst.cellL (.head _) rfl) ?_)
                                    refine RunL.take (t := 178) rfl (congrArg Value.bool (decide_eq_true g55)) (Op1.fieldAddr fld56_0 rfl ?_)
                                    refine RunL.take (t := 178) rfl (congrArg Value.bool (decide_eq_true g55)) (Op1.load1 (v := .int .i64 _) ty3 rfl rfl (hst.cellL (.head _) rfl) ?_)
                                    refine RunL.take (t := 178) rfl (congrArg Value.bool (decide_eq_true g55)) (Op1.call3 (v1 := .agg #[.int .i32 _, .int .i32 _, .int .i32 _, .int .i32 _, .int .i32 _, .int .i32 _, .int .i32 _, .int .i32 _, .int .i32 _]) (v2 := .int .i64 _) (v3 := .int .i64 _) ent34 rfl rfl rfl rfl ((edge_covers _ _ _ _ _ _ _ _ _ _ _ _).mono fun v w hp => ?_))
                                    obtain ⟨rfl, hp⟩ := hp
                                    replace hst := hst.keepc hp
                                    clear hp
                                    refine RunL.take (t := 173) rfl (congrArg Value.bool (rfl : false = _)) (Op1.pickT (u := .bool _) (congrArg Value.bool (decide_eq_true g55)) rfl ?_)
                                    refine RunL.cons (Op1.pickF (u := .bool _) (congrArg Value.bool (rfl : false = _)) rfl ?_)
                                    refine RunL.nil ?_
                                    refine run_cond_split rfl (fun g56 => ?_) (fun g56 => ?_)
                                    · skip
                                      exfalso
                                      rw [hf.c4 (by omega)] at g56; cases g56
                                    · skip
                                      refine run_skip ?_
                                      refine run_inBlock ?_
                                      refine run_region ?_
                                      refine RunL.cons (Op1.move (v := .int .i64 _) rfl ?_)
                                      refine RunL.cons (Op1.addN rfl rfl rfl (wrap_i64 (by omega) (by omega)) ?_)
                                      refine RunL.cons (Op1.assign (v := .int .i64 _) rfl ?_)
                                      refine RunL.nil ?_
                                      refine run_inLoop ?_
                                      replace hst := hst.pick (.cons (.there (.here)) (.cons (.there (.here)) (.cons (.there (.here)) (.cons (.there (.here)) .nil))))
                                      replace hst := hst.toD (L1 := [])
                                      exact ih13 (i + 1) _ w (by omega) hst (by omega) ⟨rfl, rfl, rfl, rfl, rfl, rfl, trivial⟩ ⟨(congrArg (Value.int .i64) (by omega)), trivial⟩
                                  · skip
                                    refine RunL.omit (t := 178) rfl (congrArg Value.bool (decide_eq_false g55)) rfl ?_
                                    refine RunL.omit (t := 178) rfl (congrArg Value.bool (decide_eq_false g55)) rfl ?_
                                    refine RunL.omit (t := 178) rfl (congrArg Value.bool (decide_eq_false g55)) rfl ?_
                                    refine RunL.omit (t := 178) rfl (congrArg Value.bool (decide_eq_false g55)) rfl ?_
                                    refine RunL.omit (t := 178) rfl (congrArg Value.bool (decide_eq_false g55)) rfl ?_
                                    refine RunL.omit (t := 178) rfl (congrArg Value.bool (decide_eq_false g55)) rfl ?_
                                    refine RunL.take (t := 173) rfl (congrArg Value.bool (rfl : false = _)) (Op1.pickF (u := .bool _) (congrArg Value.bool (decide_eq_false g55)) rfl ?_)
                                    refine RunL.cons (Op1.pickF (u := .bool _) (congrArg Value.bool (rfl : false = _)) rfl ?_)
                                    refine RunL.nil ?_
                                    refine run_cond_false (congrArg Value.bool (rfl : false = _)) ?_
                                    refine run_skip ?_
                                    refine run_inBlock ?_
                                    refine run_region ?_
                                    refine RunL.cons (Op1.move (v := .int .i64 _) rfl ?_)
                                    refine RunL.cons (Op1.addN rfl rfl rfl (wrap_i64 (by omega) (by omega)) ?_)
                                    refine RunL.cons (Op1.assign (v := .int .i64 _) rfl ?_)
                                    refine RunL.nil ?_
                                    refine run_inLoop ?_
                                    replace hst := hst.pick (.cons (.there (.here)) (.cons (.there (.here)) (.cons (.there (.here)) (.cons (.there (.here)) .nil))))
                                    replace hst := hst.toD (L1 := [])
                                    exact ih13 (i + 1) _ w (by omega) hst (by omega) ⟨rfl, rfl, rfl, rfl, rfl, rfl, trivial⟩ ⟨(congrArg (Value.int .i64) (by omega)), trivial⟩
            · skip
              refine run_exit (id := 0) rfl ?_
              refine run_seq ?_
              refine run_region ?_
              refine RunL.cons (Op1.call0  ent40 rfl  ((law28_awake _).mono fun v w hp => ?_))
              obtain ⟨rfl, hp⟩ := hp
              replace hst := hst.keepc hp
              clear hp
              refine RunL.cons (Op1.assign (v := .bool _) rfl ?_)
              refine RunL.nil ?_
              refine run_ret1 Try.func14 rfl (RV.tmp (v := .bool _) rfl) ?_
              exact ⟨rfl, hst.pure⟩
        · skip
          refine RunL.omit (t := 64) rfl (congrArg Value.bool (decide_eq_false g9)) rfl ?_
          refine RunL.omit (t := 64) rfl (congrArg Value.bool (decide_eq_false g9)) rfl ?_
          refine RunL.omit (t := 64) rfl (congrArg Value.bool (decide_eq_false g9)) rfl ?_
          refine RunL.omit (t := 64) rfl (congrArg Value.bool (decide_eq_false g9)) rfl ?_
          refine RunL.take (t := 58) rfl (congrArg Value.bool (decide_eq_false g8)) (Op1.pickF (u := .bool _) (congrArg Value.bool (decide_eq_false g9)) rfl ?_)
          refine RunL.take (t := 58) rfl (congrArg Value.bool (decide_eq_false g8)) (Op1.neqB ty4 rfl rfl ?_)
          refine RunL.cons (Op1.pickF (u := .bool _) (congrArg Value.bool (decide_eq_false g8)) rfl ?_)
          refine RunL.nil ?_
          refine run_cond_split rfl (fun g57 => ?_) (fun g57 => ?_)
          · skip
            exfalso
            rw [hhas, decide_eq_false (by omega)] at g57; simp at g57
          · skip
            refine run_skip ?_
            refine run_seq ?_
            refine run_region ?_
            refine RunL.cons (Op1.loadA (vs := [.int .i32 _, .int .i32 _, .int .i32 _, .int .i32 _, .int .i32 _, .int .i32 _, .int .i32 _, .int .i32 _, .int .i32 _]) ty27 rfl rfl rfl (cells_of_obj (n := 9) (hst.objL (.tail _ (.head _))) _ rfl) ?_)
            refine RunL.cons (Op1.move (v := .int .i64 _) rfl ?_)
            refine RunL.cons (Op1.move (v := .int .i64 _) rfl ?_)
            refine RunL.cons (Op1.call3 (v1 := .agg #[.int .i32 _, .int .i32 _, .int .i32 _, .int .i32 _, .int .i32 _, .int .i32 _, .int .i32 _, .int .i32 _, .int .i32 _]) (v2 := .int .i64 _) (v3 := .int .i64 _) ent39 rfl rfl rfl rfl ((cov_Box2 _ _ _ _ _ _ _ _ _ _ _ _ hB).mono fun v w hp => ?_))
            obtain ⟨rfl, hp⟩ := hp
            replace hst := hst.keepc hp
            clear hp
            refine RunL.cons (Op1.move (v := .tuple #[.agg #[.int .i64 _, .int .i64 _], .agg #[.int .i64 _, .int .i64 _], .bool _]) rfl ?_)
            refine RunL.cons (Op1.extract (v := .agg #[.int .i64 _, .int .i64 _]) rfl rfl ?_)
            refine RunL.cons (Op1.extract (v := .agg #[.int .i64 _, .int .i64 _]) rfl rfl ?_)
            refine RunL.cons (Op1.extract (v := .bool _) rfl rfl ?_)
            refine RunL.cons (Op1.alloc hst ty47 fun w b14 hst => ?_)
            refine RunL.cons (Op1.alloc hst ty47 fun w b15 hst => ?_)
            refine RunL.cons (Op1.store (v := .agg #[.int .i64 _, .int .i64 _]) hst ty47 rfl rfl rfl rfl rfl (.there (.here)) (by repeat (first | exact Put.nil | apply Put.put | apply Put.skip)) fun w hst => ?_)
            refine RunL.cons (Op1.store (v := .agg #[.int .i64 _, .int .i64 _]) hst ty47 rfl rfl rfl rfl rfl (.here) (by repeat (first | exact Put.nil | apply Put.put | apply Put.skip)) fun w hst => ?_)
            refine RunL.cons (Op1.assign (v := .bool _) rfl ?_)
            refine RunL.nil ?_
            refine run_seq ?_
            refine run_seq ?_
            refine run_region ?_
            refine RunL.cons (Op1.assign (v := .int .i64 _) rfl ?_)
            refine RunL.nil ?_
            refine run_block ?_
            refine run_loop ?_
            have sta58 := hst.static (L1 := [])
            replace hst := hst.toD (L1 := [])
            refine Run.indS (fun (i : Nat) => [(17, .int .i64 (i : Int))]) [1, 5, 11, 14, 15, 16] (fun (i : Nat) => []) (fun (i : Nat) => i ≤ l.length) (fun (i : Nat) => l.length - i) 0 hst (Nat.zero_le _) ⟨rfl, trivial⟩ (Keep.refl _ _) ?_
            intro i f w kf59 hst hJ ih60
            replace hst := hst.back sta58
            refine Run.slots (sl := [(1, .int .i64 _), (5, .pointer (some ⟨_, _, none⟩)), (11, .slice _ _ _), (14, .pointer (some ⟨_, _, none⟩)), (15, .pointer (some ⟨_, _, none⟩)), (16, .bool _)]) ⟨(kf59.get 1 rfl).trans rfl, (kf59.get 5 rfl).trans rfl, (kf59.get 11 rfl).trans rfl, (kf59.get 14 rfl).trans rfl, (kf59.get 15 rfl).trans rfl, (kf59.get 16 rfl).trans rfl, trivial⟩ ?_
            refine run_seq ?_
            refine run_seq ?_
            refine run_region ?_
            refine RunL.cons (Op1.move (v := .int .i64 _) rfl ?_)
            refine RunL.cons (Op1.move (v := .slice _ _ _) rfl ?_)
            refine RunL.cons (Op1.lenSl (rest := []) ty50 rfl ?_)
            refine RunL.cons (Op1.lss rfl rfl ?_)
            refine RunL.nil ?_
            refine run_cond_dec rfl (fun g61 => ?_) (fun g61 => ?_)
            · skip
              have hf := row_facts hpic hB hl (j := ((i : Int)).toNat) (by omega)
              have hso : 0 < (i : Int) → (l.getD ((i : Int) - 1).toNat (0, 0, 0)).1 < (l.getD ((i : Int)).toNat (0, 0, 0)).1 := fun h => hf.sort _ (by omega)
              have hnum := hf.num
              have hbb := hbd.2 ((i : Int)).toNat (by omega)
              refine run_skip ?_
              refine run_seq ?_
              refine run_block ?_
              refine run_seq ?_
              refine run_region ?_
              refine RunL.cons (Op1.move (v := .slice _ _ _) rfl ?_)
              refine RunL.cons (Op1.move (v := .int .i64 _) rfl ?_)
              obtain ⟨bs62, rfl⟩ := Res.sl_some (hst.hL _ (.tail _ (.tail _ (.head _)))) (by omega)
              refine RunL.cons (Op1.indexSl ty50 ty56 rfl rfl (by omega) (by omega) ?_)
              refine RunL.cons (Op1.loadA (vs := [.int .i64 _, .int .i64 _, .int .i64 _]) ty56 rfl rfl rfl (Res.sl_cells (k := 3) (hst.hL _ (.tail _ (.tail _ (.head _)))) _ (flat_seg (g := rowC) (d := (0, 0, 0)) rowC_len _ _ (by omega))) ?_)
              refine RunL.cons (Op1.alloc hst ty56 fun w b18 hst => ?_)
              refine RunL.cons (Op1.store (v := .agg #[.int .i64 _, .int .i64 _, .int .i64 _]) hst ty56 rfl rfl rfl rfl rfl (.here) (by repeat (first | exact Put.nil | apply Put.put | apply Put.skip)) fun w hst => ?_)
              refine RunL.nil ?_
              refine run_seq ?_
              refine run_seq ?_
              refine RunD.start [] hst (bs := [0, 1, 3, 7, 7, 23, 63, 127, 255, 7, 519, 2047, 4095, 8191, 16383, 32767, 16383, 81919, 262143, 524287, 1048575, 2097151, 4194303, 8388607, 16777215, 33554431, 67108863, 33554431, 167772159, 536870911, 1073741823, 2147483647, 4294967295, 8589934591, 4294967295, 21474836479, 68719476735, 137438953471, 274877906943, 549755813887, 1099511627775, 549755813887, 2748779069439, 8796093022207, 17592186044415, 35184372088831, 70368744177663, 140737488355327, 70368744177663, 351843720888319, 1125899906842623, 2251799813685247]) (ds := [some 90, some 91, some 92, some 93, some 94, some 95, some 96, some 97, some 98, some 99, some 100, some 101, some 102, some 103, some 104, some 105, some 106, some 107, some 108, some 109, some 110, some 111, some 112, some 113, some 114, some 115, some 116, some 117, some 118, some 119, some 120, some 121, some 122, some 123, some 124, some 125, some 126, some 127, some 128, some 129, some 130, some 131, some 132, some 133, some 134, some 135, some 136, some 137, some 138, some 139, some 140, some 141]) ⟨by kernel_rfl, by kernel_rfl, by kernel_rfl⟩ (fun tab63 => ?_)
              refine RunD.op (det _) tab63 1 (fun f' L' w' hc => Op1.move (v := .int .i64 _) (hc.old (v := .int .i64 _) rfl rfl rfl) ⟨[], ⟨rfl, rfl⟩, hc.st⟩) ?_
              refine RunD.op (det _) tab63 2 (fun f' L' w' hc => Op1.gtr (hc.det (j := 0) rfl rfl rfl rfl) rfl ⟨[], ⟨rfl, rfl⟩, hc.st⟩) ?_
              refine RunD.op (det _) tab63 3 (fun f' L' w' hc => Op1.move (v := .bool _) (hc.det (j := 1) rfl rfl rfl rfl) ⟨[], ⟨rfl, rfl⟩, hc.st⟩) ?_
              refine RunD.splitD (j := 2) rfl (fun g64 => ?_) (fun g64 => ?_)
              · skip
                refine RunD.take (det _) tab63 4 rfl (fun f' L' w' hc => (hc.det (j := 2) rfl rfl rfl rfl).trans (congrArg Value.bool (decide_eq_true g64))) (fun f' L' w' hc => Op1.move (v := .slice _ _ _) (hc.old (v := .slice _ _ _) rfl rfl rfl) ⟨[], ⟨rfl, rfl⟩, hc.st⟩) ?_
                refine RunD.take (det _) tab63 5 rfl (fun f' L' w' hc => (hc.det (j := 2) rfl rfl rfl rfl).trans (congrArg Value.bool (decide_eq_true g64))) (fun f' L' w' hc => Op1.move (v := .int .i64 _) (hc.old (v := .int .i64 _) rfl rfl rfl) ⟨[], ⟨rfl, rfl⟩, hc.st⟩) ?_
                refine RunD.take (det _) tab63 6 rfl (fun f' L' w' hc => (hc.det (j := 2) rfl rfl rfl rfl).trans (congrArg Value.bool (decide_eq_true g64))) (fun f' L' w' hc => Op1.subN (hc.det (j := 4) rfl rfl rfl rfl) rfl rfl (wrap_i64 (by omega) (by omega)) ⟨[], ⟨rfl, rfl⟩, hc.st⟩) ?_
                refine RunD.take (det _) tab63 7 rfl (fun f' L' w' hc => (hc.det (j := 2) rfl rfl rfl rfl).trans (congrArg Value.bool (decide_eq_true g64))) (fun f' L' w' hc => Op1.indexSl ty50 ty56 (hc.det (j := 3) rfl rfl rfl rfl) (hc.det (j := 5) rfl rfl rfl rfl) (by omega) (by omega) ⟨[], ⟨rfl, rfl⟩, hc.st⟩) ?_
                refine RunD.take (det _) tab63 8 rfl (fun f' L' w' hc => (hc.det (j := 2) rfl rfl rfl rfl).trans (congrArg Value.bool (decide_eq_true g64))) (fun f' L' w' hc => Op1.fieldAddr fld56_0 (hc.det (j := 6) rfl rfl rfl rfl) ⟨[], ⟨rfl, rfl⟩, hc.st⟩) ?_
                refine RunD.take (det _) tab63 9 rfl (fun f' L' w' hc => (hc.det (j := 2) rfl rfl rfl rfl).trans (congrArg Value.bool (decide_eq_true g64))) (fun f' L' w' hc => Op1.load1 (v := .int .i64 _) ty3 rfl (hc.det (j := 7) rfl rfl rfl rfl) (Res.sl_cell (hc.st.hL _ (List.mem_append_right _ (.tail _ (.tail _ (.tail _ (.head _)))))) (flat_cell (g := rowC) (d := (0, 0, 0)) rowC_len rfl (by omega))) ⟨[], ⟨rfl, rfl⟩, hc.st⟩) ?_
                refine RunD.take (det _) tab63 10 rfl (fun f' L' w' hc => (hc.det (j := 2) rfl rfl rfl rfl).trans (congrArg Value.bool (decide_eq_true g64))) (fun f' L' w' hc => Op1.fieldAddr fld56_0 (hc.old (v := .pointer (some ⟨_, _, none⟩)) rfl rfl rfl) ⟨[], ⟨rfl, rfl⟩, hc.st⟩) ?_
                refine RunD.take (det _) tab63 11 rfl (fun f' L' w' hc => (hc.det (j := 2) rfl rfl rfl rfl).trans (congrArg Value.bool (decide_eq_true g64))) (fun f' L' w' hc => Op1.load1 (v := .int .i64 _) ty3 rfl (hc.det (j := 9) rfl rfl rfl rfl) (hc.st.cellL (List.mem_append_right _ (.head _)) rfl) ⟨[], ⟨rfl, rfl⟩, hc.st⟩) ?_
                refine RunD.take (det _) tab63 12 rfl (fun f' L' w' hc => (hc.det (j := 2) rfl rfl rfl rfl).trans (congrArg Value.bool (decide_eq_true g64))) (fun f' L' w' hc => Op1.geq (hc.det (j := 8) rfl rfl rfl rfl) (hc.det (j := 10) rfl rfl rfl rfl) ⟨[], ⟨rfl, rfl⟩, hc.st⟩) ?_
                refine RunD.op (det _) tab63 13 (fun f' L' w' hc => Op1.pickT (u := .bool _) (((hc.det (j := 2) rfl rfl rfl rfl)).trans (congrArg Value.bool (decide_eq_true g64))) (hc.det (j := 11) rfl rfl rfl rfl) ⟨[], ⟨rfl, rfl⟩, hc.st⟩) ?_
                refine RunD.op (det _) tab63 14 (fun f' L' w' hc => Op1.move (v := .bool _) (hc.det (j := 12) rfl rfl rfl rfl) ⟨[], ⟨rfl, rfl⟩, hc.st⟩) ?_
                refine RunD.splitD (j := 13) rfl (fun g65 => ?_) (fun g65 => ?_)
                · skip
                  exfalso
                  omega
                · skip
                  refine RunD.take (det _) tab63 15 rfl (fun f' L' w' hc => (hc.det (j := 13) rfl rfl rfl rfl).trans (congrArg Value.bool (decide_eq_false g65))) (fun f' L' w' hc => Op1.fieldAddr fld56_1 (hc.old (v := .pointer (some ⟨_, _, none⟩)) rfl rfl rfl) ⟨[], ⟨rfl, rfl⟩, hc.st⟩) ?_
                  refine RunD.take (det _) tab63 16 rfl (fun f' L' w' hc => (hc.det (j := 13) rfl rfl rfl rfl).trans (congrArg Value.bool (decide_eq_false g65))) (fun f' L' w' hc => Op1.load1 (v := .int .i64 _) ty3 rfl (hc.det (j := 14) rfl rfl rfl rfl) (hc.st.cellL (List.mem_append_right _ (.head _)) rfl) ⟨[], ⟨rfl, rfl⟩, hc.st⟩) ?_
                  refine RunD.take (det _) tab63 17 rfl (fun f' L' w' hc => (hc.det (j := 13) rfl rfl rfl rfl).trans (congrArg Value.bool (decide_eq_false g65))) (fun f' L' w' hc => Op1.fieldAddr fld56_2 (hc.old (v := .pointer (some ⟨_, _, none⟩)) rfl rfl rfl) ⟨[], ⟨rfl, rfl⟩, hc.st⟩) ?_
                  refine RunD.take (det _) tab63 18 rfl (fun f' L' w' hc => (hc.det (j := 13) rfl rfl rfl rfl).trans (congrArg Value.bool (decide_eq_false g65))) (fun f' L' w' hc => Op1.load1 (v := .int .i64 _) ty3 rfl (hc.det (j := 16) rfl rfl rfl rfl) (hc.st.cellL (List.mem_append_right _ (.head _)) rfl) ⟨[], ⟨rfl, rfl⟩, hc.st⟩) ?_
                  refine RunD.take (det _) tab63 19 rfl (fun f' L' w' hc => (hc.det (j := 13) rfl rfl rfl rfl).trans (congrArg Value.bool (decide_eq_false g65))) (fun f' L' w' hc => Op1.geq (hc.det (j := 15) rfl rfl rfl rfl) (hc.det (j := 17) rfl rfl rfl rfl) ⟨[], ⟨rfl, rfl⟩, hc.st⟩) ?_
                  refine RunD.op (det _) tab63 20 (fun f' L' w' hc => Op1.pickF (u := .bool _) (((hc.det (j := 13) rfl rfl rfl rfl)).trans (congrArg Value.bool (decide_eq_false g65))) (hc.det (j := 18) rfl rfl rfl rfl) ⟨[], ⟨rfl, rfl⟩, hc.st⟩) ?_
                  refine RunD.op (det _) tab63 21 (fun f' L' w' hc => Op1.move (v := .bool _) (hc.det (j := 19) rfl rfl rfl rfl) ⟨[], ⟨rfl, rfl⟩, hc.st⟩) ?_
                  refine RunD.splitD (j := 20) rfl (fun g66 => ?_) (fun g66 => ?_)
                  · skip
                    exfalso
                    omega
                  · skip
                    refine RunD.take (det _) tab63 22 rfl (fun f' L' w' hc => (hc.det (j := 20) rfl rfl rfl rfl).trans (congrArg Value.bool (decide_eq_false g66))) (fun f' L' w' hc => Op1.move (v := .bool _) (hc.old (v := .bool _) rfl rfl rfl) ⟨[], ⟨rfl, rfl⟩, hc.st⟩) ?_
                    refine RunD.take (det _) tab63 23 rfl (fun f' L' w' hc => (hc.det (j := 20) rfl rfl rfl rfl).trans (congrArg Value.bool (decide_eq_false g66))) (fun f' L' w' hc => Op1.not (hc.det (j := 21) rfl rfl rfl rfl) ⟨[], ⟨rfl, rfl⟩, hc.st⟩) ?_
                    refine RunD.op (det _) tab63 24 (fun f' L' w' hc => Op1.pickF (u := .bool _) (((hc.det (j := 20) rfl rfl rfl rfl)).trans (congrArg Value.bool (decide_eq_false g66))) (hc.det (j := 22) rfl rfl rfl rfl) ⟨[], ⟨rfl, rfl⟩, hc.st⟩) ?_
                    refine RunD.op (det _) tab63 25 (fun f' L' w' hc => Op1.move (v := .bool _) (hc.det (j := 23) rfl rfl rfl rfl) ⟨[], ⟨rfl, rfl⟩, hc.st⟩) ?_
                    refine RunD.split (j := 24) rfl (fun g67 => ?_) (fun g67 => ?_)
                    · skip
                      exfalso
                      rw [hf.is] at g67; cases g67
                    · skip
                      refine RunD.take (det _) tab63 26 rfl (fun f' L' w' hc => (hc.det (j := 24) rfl rfl rfl rfl).trans (congrArg Value.bool g67)) (fun f' L' w' hc => Op1.fieldAddr fld56_0 (hc.old (v := .pointer (some ⟨_, _, none⟩)) rfl rfl rfl) ⟨[], ⟨rfl, rfl⟩, hc.st⟩) ?_
                      refine RunD.take (det _) tab63 27 rfl (fun f' L' w' hc => (hc.det (j := 24) rfl rfl rfl rfl).trans (congrArg Value.bool g67)) (fun f' L' w' hc => Op1.load1 (v := .int .i64 _) ty3 rfl (hc.det (j := 25) rfl rfl rfl rfl) (hc.st.cellL (List.mem_append_right _ (.head _)) rfl) ⟨[], ⟨rfl, rfl⟩, hc.st⟩) ?_
                      refine RunD.take (det _) tab63 28 rfl (fun f' L' w' hc => (hc.det (j := 24) rfl rfl rfl rfl).trans (congrArg Value.bool g67)) (fun f' L' w' hc => Op1.fieldAddr fld47_0 (hc.old (v := .pointer (some ⟨_, _, none⟩)) rfl rfl rfl) ⟨[], ⟨rfl, rfl⟩, hc.st⟩) ?_
                      refine RunD.take (det _) tab63 29 rfl (fun f' L' w' hc => (hc.det (j := 24) rfl rfl rfl rfl).trans (congrArg Value.bool g67)) (fun f' L' w' hc => Op1.load1 (v := .int .i64 _) ty3 rfl (hc.det (j := 27) rfl rfl rfl rfl) (hc.st.cellL (List.mem_append_right _ (.tail _ (.head _))) rfl) ⟨[], ⟨rfl, rfl⟩, hc.st⟩) ?_
                      refine RunD.take (det _) tab63 30 rfl (fun f' L' w' hc => (hc.det (j := 24) rfl rfl rfl rfl).trans (congrArg Value.bool g67)) (fun f' L' w' hc => Op1.lss (hc.det (j := 26) rfl rfl rfl rfl) (hc.det (j := 28) rfl rfl rfl rfl) ⟨[], ⟨rfl, rfl⟩, hc.st⟩) ?_
                      refine RunD.op (det _) tab63 31 (fun f' L' w' hc => Op1.pickF (u := .bool _) (((hc.det (j := 24) rfl rfl rfl rfl)).trans (congrArg Value.bool g67)) (hc.det (j := 29) rfl rfl rfl rfl) ⟨[], ⟨rfl, rfl⟩, hc.st⟩) ?_
                      refine RunD.op (det _) tab63 32 (fun f' L' w' hc => Op1.move (v := .bool _) (hc.det (j := 30) rfl rfl rfl rfl) ⟨[], ⟨rfl, rfl⟩, hc.st⟩) ?_
                      refine RunD.splitD (j := 31) rfl (fun g68 => ?_) (fun g68 => ?_)
                      · skip
                        exfalso
                        omega
                      · skip
                        refine RunD.take (det _) tab63 33 rfl (fun f' L' w' hc => (hc.det (j := 31) rfl rfl rfl rfl).trans (congrArg Value.bool (decide_eq_false g68))) (fun f' L' w' hc => Op1.fieldAddr fld56_0 (hc.old (v := .pointer (some ⟨_, _, none⟩)) rfl rfl rfl) ⟨[], ⟨rfl, rfl⟩, hc.st⟩) ?_
                        refine RunD.take (det _) tab63 34 rfl (fun f' L' w' hc => (hc.det (j := 31) rfl rfl rfl rfl).trans (congrArg Value.bool (decide_eq_false g68))) (fun f' L' w' hc => Op1.load1 (v := .int .i64 _) ty3 rfl (hc.det (j := 32) rfl rfl rfl rfl) (hc.st.cellL (List.mem_append_right _ (.head _)) rfl) ⟨[], ⟨rfl, rfl⟩, hc.st⟩) ?_
                        refine RunD.take (det _) tab63 35 rfl (fun f' L' w' hc => (hc.det (j := 31) rfl rfl rfl rfl).trans (congrArg Value.bool (decide_eq_false g68))) (fun f' L' w' hc => Op1.fieldAddr fld47_1 (hc.old (v := .pointer (some ⟨_, _, none⟩)) rfl rfl rfl) ⟨[], ⟨rfl, rfl⟩, hc.st⟩) ?_
                        refine RunD.take (det _) tab63 36 rfl (fun f' L' w' hc => (hc.det (j := 31) rfl rfl rfl rfl).trans (congrArg Value.bool (decide_eq_false g68))) (fun f' L' w' hc => Op1.load1 (v := .int .i64 _) ty3 rfl (hc.det (j := 34) rfl rfl rfl rfl) (hc.st.cellL (List.mem_append_right _ (.tail _ (.head _))) rfl) ⟨[], ⟨rfl, rfl⟩, hc.st⟩) ?_
                        refine RunD.take (det _) tab63 37 rfl (fun f' L' w' hc => (hc.det (j := 31) rfl rfl rfl rfl).trans (congrArg Value.bool (decide_eq_false g68))) (fun f' L' w' hc => Op1.geq (hc.det (j := 33) rfl rfl rfl rfl) (hc.det (j := 35) rfl rfl rfl rfl) ⟨[], ⟨rfl, rfl⟩, hc.st⟩) ?_
                        refine RunD.op (det _) tab63 38 (fun f' L' w' hc => Op1.pickF (u := .bool _) (((hc.det (j := 31) rfl rfl rfl rfl)).trans (congrArg Value.bool (decide_eq_false g68))) (hc.det (j := 36) rfl rfl rfl rfl) ⟨[], ⟨rfl, rfl⟩, hc.st⟩) ?_
                        refine RunD.op (det _) tab63 39 (fun f' L' w' hc => Op1.move (v := .bool _) (hc.det (j := 37) rfl rfl rfl rfl) ⟨[], ⟨rfl, rfl⟩, hc.st⟩) ?_
                        refine RunD.splitD (j := 38) rfl (fun g69 => ?_) (fun g69 => ?_)
                        · skip
                          exfalso
                          omega
                        · skip
                          refine RunD.take (det _) tab63 40 rfl (fun f' L' w' hc => (hc.det (j := 38) rfl rfl rfl rfl).trans (congrArg Value.bool (decide_eq_false g69))) (fun f' L' w' hc => Op1.fieldAddr fld56_1 (hc.old (v := .pointer (some ⟨_, _, none⟩)) rfl rfl rfl) ⟨[], ⟨rfl, rfl⟩, hc.st⟩) ?_
                          refine RunD.take (det _) tab63 41 rfl (fun f' L' w' hc => (hc.det (j := 38) rfl rfl rfl rfl).trans (congrArg Value.bool (decide_eq_false g69))) (fun f' L' w' hc => Op1.load1 (v := .int .i64 _) ty3 rfl (hc.det (j := 39) rfl rfl rfl rfl) (hc.st.cellL (List.mem_append_right _ (.head _)) rfl) ⟨[], ⟨rfl, rfl⟩, hc.st⟩) ?_
                          refine RunD.take (det _) tab63 42 rfl (fun f' L' w' hc => (hc.det (j := 38) rfl rfl rfl rfl).trans (congrArg Value.bool (decide_eq_false g69))) (fun f' L' w' hc => Op1.fieldAddr fld47_0 (hc.old (v := .pointer (some ⟨_, _, none⟩)) rfl rfl rfl) ⟨[], ⟨rfl, rfl⟩, hc.st⟩) ?_
                          refine RunD.take (det _) tab63 43 rfl (fun f' L' w' hc => (hc.det (j := 38) rfl rfl rfl rfl).trans (congrArg Value.bool (decide_eq_false g69))) (fun f' L' w' hc => Op1.load1 (v := .int .i64 _) ty3 rfl (hc.det (j := 41) rfl rfl rfl rfl) (hc.st.cellL (List.mem_append_right _ (.tail _ (.tail _ (.head _)))) rfl) ⟨[], ⟨rfl, rfl⟩, hc.st⟩) ?_
                          refine RunD.take (det _) tab63 44 rfl (fun f' L' w' hc => (hc.det (j := 38) rfl rfl rfl rfl).trans (congrArg Value.bool (decide_eq_false g69))) (fun f' L' w' hc => Op1.lss (hc.det (j := 40) rfl rfl rfl rfl) (hc.det (j := 42) rfl rfl rfl rfl) ⟨[], ⟨rfl, rfl⟩, hc.st⟩) ?_
                          refine RunD.op (det _) tab63 45 (fun f' L' w' hc => Op1.pickF (u := .bool _) (((hc.det (j := 38) rfl rfl rfl rfl)).trans (congrArg Value.bool (decide_eq_false g69))) (hc.det (j := 43) rfl rfl rfl rfl) ⟨[], ⟨rfl, rfl⟩, hc.st⟩) ?_
                          refine RunD.op (det _) tab63 46 (fun f' L' w' hc => Op1.move (v := .bool _) (hc.det (j := 44) rfl rfl rfl rfl) ⟨[], ⟨rfl, rfl⟩, hc.st⟩) ?_
                          refine RunD.splitD (j := 45) rfl (fun g70 => ?_) (fun g70 => ?_)
                          · skip
                            exfalso
                            omega
                          · skip
                            refine RunD.take (det _) tab63 47 rfl (fun f' L' w' hc => (hc.det (j := 45) rfl rfl rfl rfl).trans (congrArg Value.bool (decide_eq_false g70))) (fun f' L' w' hc => Op1.fieldAddr fld56_2 (hc.old (v := .pointer (some ⟨_, _, none⟩)) rfl rfl rfl) ⟨[], ⟨rfl, rfl⟩, hc.st⟩) ?_
                            refine RunD.take (det _) tab63 48 rfl (fun f' L' w' hc => (hc.det (j := 45) rfl rfl rfl rfl).trans (congrArg Value.bool (decide_eq_false g70))) (fun f' L' w' hc => Op1.load1 (v := .int .i64 _) ty3 rfl (hc.det (j := 46) rfl rfl rfl rfl) (hc.st.cellL (List.mem_append_right _ (.head _)) rfl) ⟨[], ⟨rfl, rfl⟩, hc.st⟩) ?_
                            refine RunD.take (det _) tab63 49 rfl (fun f' L' w' hc => (hc.det (j := 45) rfl rfl rfl rfl).trans (congrArg Value.bool (decide_eq_false g70))) (fun f' L' w' hc => Op1.fieldAddr fld47_1 (hc.old (v := .pointer (some ⟨_, _, none⟩)) rfl rfl rfl) ⟨[], ⟨rfl, rfl⟩, hc.st⟩) ?_
                            refine RunD.take (det _) tab63 50 rfl (fun f' L' w' hc => (hc.det (j := 45) rfl rfl rfl rfl).trans (congrArg Value.bool (decide_eq_false g70))) (fun f' L' w' hc => Op1.load1 (v := .int .i64 _) ty3 rfl (hc.det (j := 48) rfl rfl rfl rfl) (hc.st.cellL (List.mem_append_right _ (.tail _ (.tail _ (.head _)))) rfl) ⟨[], ⟨rfl, rfl⟩, hc.st⟩) ?_
                            refine RunD.fin followsMixed tab63 hst rfl (fun f71 w R74 hs72 hd73 hr75 hst => ?_)
                            obtain ⟨h90_, r0⟩ := hd73 0 90 rfl rfl
                            obtain ⟨h91_, r1⟩ := hd73 1 91 rfl rfl
                            obtain ⟨h92_, r2⟩ := hd73 2 92 rfl rfl
                            obtain ⟨h93_, r3⟩ := hd73 3 93 rfl rfl
                            obtain ⟨h94_, r4⟩ := hd73 4 94 rfl rfl
                            obtain ⟨h95_, r5⟩ := hd73 5 95 rfl rfl
                            obtain ⟨h96_, r6⟩ := hd73 6 96 rfl rfl
                            obtain ⟨h97_, r7⟩ := hd73 7 97 rfl rfl
                            obtain ⟨h98_, r8⟩ := hd73 8 98 rfl rfl
                            obtain ⟨h99_, r9⟩ := hd73 9 99 rfl rfl
                            obtain ⟨h100_, r10⟩ := hd73 10 100 rfl rfl
                            obtain ⟨h101_, r11⟩ := hd73 11 101 rfl rfl
                            obtain ⟨h102_, r12⟩ := hd73 12 102 rfl rfl
                            obtain ⟨h103_, r13⟩ := hd73 13 103 rfl rfl
                            obtain ⟨h104_, r14⟩ := hd73 14 104 rfl rfl
                            obtain ⟨h105_, r15⟩ := hd73 15 105 rfl rfl
                            obtain ⟨h106_, r16⟩ := hd73 16 106 rfl rfl
                            obtain ⟨h107_, r17⟩ := hd73 17 107 rfl rfl
                            obtain ⟨h108_, r18⟩ := hd73 18 108 rfl rfl
                            obtain ⟨h109_, r19⟩ := hd73 19 109 rfl rfl
                            obtain ⟨h110_, r20⟩ := hd73 20 110 rfl rfl
                            obtain ⟨h111_, r21⟩ := hd73 21 111 rfl rfl
                            obtain ⟨h112_, r22⟩ := hd73 22 112 rfl rfl
                            obtain ⟨h113_, r23⟩ := hd73 23 113 rfl rfl
                            obtain ⟨h114_, r24⟩ := hd73 24 114 rfl rfl
                            obtain ⟨h115_, r25⟩ := hd73 25 115 rfl rfl
                            obtain ⟨h116_, r26⟩ := hd73 26 116 rfl rfl
                            obtain ⟨h117_, r27⟩ := hd73 27 117 rfl rfl
                            obtain ⟨h118_, r28⟩ := hd73 28 118 rfl rfl
                            obtain ⟨h119_, r29⟩ := hd73 29 119 rfl rfl
                            obtain ⟨h120_, r30⟩ := hd73 30 120 rfl rfl
                            obtain ⟨h121_, r31⟩ := hd73 31 121 rfl rfl
                            obtain ⟨h122_, r32⟩ := hd73 32 122 rfl rfl
                            obtain ⟨h123_, r33⟩ := hd73 33 123 rfl rfl
                            obtain ⟨h124_, r34⟩ := hd73 34 124 rfl rfl
                            obtain ⟨h125_, r35⟩ := hd73 35 125 rfl rfl
                            obtain ⟨h126_, r36⟩ := hd73 36 126 rfl rfl
                            obtain ⟨h127_, r37⟩ := hd73 37 127 rfl rfl
                            obtain ⟨h128_, r38⟩ := hd73 38 128 rfl rfl
                            obtain ⟨h129_, r39⟩ := hd73 39 129 rfl rfl
                            obtain ⟨h130_, r40⟩ := hd73 40 130 rfl rfl
                            obtain ⟨h131_, r41⟩ := hd73 41 131 rfl rfl
                            obtain ⟨h132_, r42⟩ := hd73 42 132 rfl rfl
                            obtain ⟨h133_, r43⟩ := hd73 43 133 rfl rfl
                            obtain ⟨h134_, r44⟩ := hd73 44 134 rfl rfl
                            obtain ⟨h135_, r45⟩ := hd73 45 135 rfl rfl
                            obtain ⟨h136_, r46⟩ := hd73 46 136 rfl rfl
                            obtain ⟨h137_, r47⟩ := hd73 47 137 rfl rfl
                            obtain ⟨h138_, r48⟩ := hd73 48 138 rfl rfl
                            obtain ⟨h139_, r49⟩ := hd73 49 139 rfl rfl
                            simp only [show List.range 50 = [0, 1, 2, 3, 4, 5, 6, 7, 8, 9, 10, 11, 12, 13, 14, 15, 16, 17, 18, 19, 20, 21, 22, 23, 24, 25, 26, 27, 28, 29, 30, 31, 32, 33, 34, 35, 36, 37, 38, 39, 40, 41, 42, 43, 44, 45, 46, 47, 48, 49] from rfl, List.flatMap_cons, List.flatMap_nil, List.map_cons, List.map_nil, r0, r1, r2, r3, r4, r5, r6, r7, r8, r9, r10, r11, r12, r13, r14, r15, r16, r17, r18, r19, r20, r21, r22, r23, r24, r25, r26, r27, r28, r29, r30, r31, r32, r33, r34, r35, r36, r37, r38, r39, r40, r41, r42, r43, r44, r45, r46, r47, r48, r49, List.nil_append, List.append_nil, List.cons_append] at hst
                            refine RunL.slots (sl := [(1, .int .i64 _), (5, .pointer (some ⟨_, _, none⟩)), (11, .slice _ _ _), (14, .pointer (some ⟨_, _, none⟩)), (15, .pointer (some ⟨_, _, none⟩)), (16, .bool _), (17, .int .i64 _), (18, .pointer (some ⟨_, _, none⟩)), (135, .bool _), (137, .int .i64 _), (139, .int .i64 _)]) ⟨(hs72 1 rfl).trans rfl, (hs72 5 rfl).trans rfl, (hs72 11 rfl).trans rfl, (hs72 14 rfl).trans rfl, (hs72 15 rfl).trans rfl, (hs72 16 rfl).trans rfl, (hs72 17 rfl).trans rfl, (hs72 18 rfl).trans rfl, h135_, h137_, h139_, trivial⟩ ?_
                            clear hs72 hd73 hr75 tab63
                            refine RunL.take (t := 135) rfl (congrArg Value.bool (decide_eq_false g70)) (Op1.gtr rfl rfl ?_)
                            refine RunL.cons (Op1.pickF (u := .bool _) (congrArg Value.bool (decide_eq_false g70)) rfl ?_)
                            refine RunL.nil ?_
                            refine run_cond_dec rfl (fun g76 => ?_) (fun g76 => ?_)
                            · skip
                              exfalso
                              omega
                            · skip
                              refine run_skip ?_
                              refine run_seq ?_
                              refine run_region ?_
                              refine RunL.cons (Op1.loadA (vs := [.int .i32 _, .int .i32 _, .int .i32 _, .int .i32 _, .int .i32 _, .int .i32 _, .int .i32 _, .int .i32 _, .int .i32 _]) ty27 rfl rfl rfl (cells_of_obj (n := 9) (hst.objL (.tail _ (.tail _ (.tail _ (.tail _ (.head _)))))) _ rfl) ?_)
                              refine RunL.cons (Op1.fieldAddr fld56_1 rfl ?_)
                              refine RunL.cons (Op1.load1 (v := .int .i64 _) ty3 rfl rfl (hst.cellL (.head _) rfl) ?_)
                              refine RunL.cons (Op1.fieldAddr fld56_0 rfl ?_)
                              refine RunL.cons (Op1.load1 (v := .int .i64 _) ty3 rfl rfl (hst.cellL (.head _) rfl) ?_)
                              refine RunL.cons (Op1.call3 (v1 := .agg #[.int .i32 _, .int .i32 _, .int .i32 _, .int .i32 _, .int .i32 _, .int .i32 _, .int .i32 _, .int .i32 _, .int .i32 _]) (v2 := .int .i64 _) (v3 := .int .i64 _) ent34 rfl rfl rfl rfl ((edge_covers _ _ _ _ _ _ _ _ _ _ _ _).mono fun v w hp => ?_))
                              obtain ⟨rfl, hp⟩ := hp
                              replace hst := hst.keepc hp
                              clear hp
                              refine RunL.cons (Op1.not rfl ?_)
                              refine RunL.cons (Op1.move (v := .bool _) rfl ?_)
                              refine RunL.split (d := 149) rfl (fun g77 => ?_) (fun g77 => ?_)
                              · skip
                                exfalso
                                rw [hf.c1] at g77; cases g77
                              · skip
                                refine RunL.take (t := 149) rfl (congrArg Value.bool g77) (Op1.loadA (vs := [.int .i32 _, .int .i32 _, .int .i32 _, .int .i32 _, .int .i32 _, .int .i32 _, .int .i32 _, .int .i32 _, .int .i32 _]) ty27 rfl rfl rfl (cells_of_obj (n := 9) (hst.objL (.tail _ (.tail _ (.tail _ (.tail _ (.head _)))))) _ rfl) ?_)
                                refine RunL.take (t := 149) rfl (congrArg Value.bool g77) (Op1.fieldAddr fld56_2 rfl ?_)
                                refine RunL.take (t := 149) rfl (congrArg Value.bool g77) (Op1.load1 (v := .int .i64 _) ty3 rfl rfl (hst.cellL (.head _) rfl) ?_)
                                refine RunL.take (t := 149) rfl (congrArg Value.bool g77) (Op1.subN rfl rfl rfl (wrap_i64 (by omega) (by omega)) ?_)
                                refine RunL.take (t := 149) rfl (congrArg Value.bool g77) (Op1.fieldAddr fld56_0 rfl ?_)
                                refine RunL.take (t := 149) rfl (congrArg Value.bool g77) (Op1.load1 (v := .int .i64 _) ty3 rfl rfl (hst.cellL (.head _) rfl) ?_)
                                refine RunL.take (t := 149) rfl (congrArg Value.bool g77) (Op1.call3 (v1 := .agg #[.int .i32 _, .int .i32 _, .int .i32 _, .int .i32 _, .int .i32 _, .int .i32 _, .int .i32 _, .int .i32 _, .int .i32 _]) (v2 := .int .i64 _) (v3 := .int .i64 _) ent34 rfl rfl rfl rfl ((edge_covers _ _ _ _ _ _ _ _ _ _ _ _).mono fun v w hp => ?_))
                                obtain ⟨rfl, hp⟩ := hp
                                replace hst := hst.keepc hp
                                clear hp
                                refine RunL.take (t := 149) rfl (congrArg Value.bool g77) (Op1.not rfl ?_)
                                refine RunL.cons (Op1.pickF (u := .bool _) (congrArg Value.bool g77) rfl ?_)
                                refine RunL.cons (Op1.move (v := .bool _) rfl ?_)
                                refine RunL.split (d := 159) rfl (fun g78 => ?_) (fun g78 => ?_)
                                · skip
                                  exfalso
                                  rw [hf.c2] at g78; cases g78
                                · skip
                                  refine RunL.take (t := 159) rfl (congrArg Value.bool g78) (Op1.fieldAddr fld56_1 rfl ?_)
                                  refine RunL.take (t := 159) rfl (congrArg Value.bool g78) (Op1.load1 (v := .int .i64 _) ty3 rfl rfl (hst.cellL (.head _) rfl) ?_)
                                  refine RunL.take (t := 159) rfl (congrArg Value.bool g78) (Op1.gtr rfl rfl ?_)
                                  refine RunL.take (t := 159) rfl (congrArg Value.bool g78) (Op1.move (v := .bool _) rfl ?_)
                                  refine RunL.splitD (d := 163) rfl (fun g79 => ?_) (fun g79 => ?_)
                                  · skip
                                    refine RunL.take (t := 163) rfl (congrArg Value.bool (decide_eq_true g79)) (Op1.loadA (vs := [.int .i32 _, .int .i32 _, .int .i32 _, .int .i32 _, .int .i32 _, .int .i32 _, .int .i32 _, .int .i32 _, .int .i32 _]) ty27 rfl rfl rfl (cells_of_obj (n := 9) (hst.objL (.tail _ (.tail _ (.tail _ (.tail _ (.head _)))))) _ rfl) ?_)
                                    refine RunL.take (t := 163) rfl (congrArg Value.bool (decide_eq_true g79)) (Op1.fieldAddr fld56_1 rfl ?_)
                                    refine RunL.take (t := 163) rfl (congrArg Value.bool (decide_eq_true g79)) (Op1.load1 (v := .int .i64 _) ty3 rfl rfl (hst.cellL (.head _) rfl) ?_)
                                    refine RunL.take (t := 163) rfl (congrArg Value.bool (decide_eq_true g79)) (Op1.subN rfl rfl rfl (wrap_i64 (by omega) (by omega)) ?_)
                                    refine RunL.take (t := 163) rfl (congrArg Value.bool (decide_eq_true g79)) (Op1.fieldAddr fld56_0 rfl ?_)
                                    refine RunL.take (t := 163) rfl (congrArg Value.bool (decide_eq_true g79)) (Op1.load1 (v := .int .i64 _) ty3 rfl rfl (hst.cellL (.head _) rfl) ?_)
                                    refine RunL.take (t := 163) rfl (congrArg Value.bool (decide_eq_true g79)) (Op1.call3 (v1 := .agg #[.int .i32 _, .int .i32 _, .int .i32 _, .int .i32 _, .int .i32 _, .int .i32 _, .int .i32 _, .int .i32 _, .int .i32 _]) (v2 := .int .i64 _) (v3 := .int .i64 _) ent34 rfl rfl rfl rfl ((edge_covers _ _ _ _ _ _ _ _ _ _ _ _).mono fun v w hp => ?_))
                                    obtain ⟨rfl, hp⟩ := hp
                                    replace hst := hst.keepc hp
                                    clear hp
                                    refine RunL.take (t := 159) rfl (congrArg Value.bool g78) (Op1.pickT (u := .bool _) (congrArg Value.bool (decide_eq_true g79)) rfl ?_)
                                    refine RunL.cons (Op1.pickF (u := .bool _) (congrArg Value.bool g78) rfl ?_)
                                    refine RunL.cons (Op1.move (v := .bool _) rfl ?_)
                                    refine RunL.split (d := 173) rfl (fun g80 => ?_) (fun g80 => ?_)
                                    · skip
                                      exfalso
                                      rw [hf.c3 (by omega)] at g80; cases g80
                                    · skip
                                      refine RunL.take (t := 173) rfl (congrArg Value.bool g80) (Op1.fieldAddr fld56_2 rfl ?_)
                                      refine RunL.take (t := 173) rfl (congrArg Value.bool g80) (Op1.load1 (v := .int .i64 _) ty3 rfl rfl (hst.cellL (.head _) rfl) ?_)
                                      refine RunL.take (t := 173) rfl (congrArg Value.bool g80) (Op1.move (v := .int .i64 _) rfl ?_)
                                      refine RunL.take (t := 173) rfl (congrArg Value.bool g80) (Op1.lss rfl rfl ?_)
                                      refine RunL.take (t := 173) rfl (congrArg Value.bool g80) (Op1.move (v := .bool _) rfl ?_)
                                      refine RunL.splitD (d := 178) rfl (fun g81 => ?_) (fun g81 => ?_)
                                      · skip
                                        refine RunL.take (t := 178) rfl (congrArg Value.bool (decide_eq_true g81)) (Op1.loadA (vs := [.int .i32 _, .int .i32 _, .int .i32 _, .int .i32 _, .int .i32 _, .int .i32 _, .int .i32 _, .int .i32 _, .int .i32 _]) ty27 rfl rfl rfl (cells_of_obj (n := 9) (hst.objL (.tail _ (.tail _ (.tail _ (.tail _ (.head _)))))) _ rfl) ?_)
                                        refine RunL.take (t := 178) rfl (congrArg Value.bool (decide_eq_true g81)) (Op1.fieldAddr fld56_2 rfl ?_)
                                        refine RunL.take (t := 178) rfl (congrArg Value.bool (decide_eq_true g81)) (Op1.load1 (v := .int .i64 _) ty3 rfl rfl (hst.cellL (.head _) rfl) ?_)
                                        refine RunL.take (t := 178) rfl (congrArg Value.bool (decide_eq_true g81)) (Op1.fieldAddr fld56_0 rfl ?_)
                                        refine RunL.take (t := 178) rfl (congrArg Value.bool (decide_eq_true g81)) (Op1.load1 (v := .int .i64 _) ty3 rfl rfl (hst.cellL (.head _) rfl) ?_)
                                        refine RunL.take (t := 178) rfl (congrArg Value.bool (decide_eq_true g81)) (Op1.call3 (v1 := .agg #[.int .i32 _, .int .i32 _, .int .i32 _, .int .i32 _, .int .i32 _, .int .i32 _, .int .i32 _, .int .i32 _, .int .i32 _]) (v2 := .int .i64 _) (v3 := .int .i64 _) ent34 rfl rfl rfl rfl ((edge_covers _ _ _ _ _ _ _ _ _ _ _ _).mono fun v w hp => ?_))
                                        obtain ⟨rfl, hp⟩ := hp
                                        replace hst := hst.keepc hp
                                        clear hp
                                        refine RunL.take (t := 173) rfl (congrArg Value.bool g80) (Op1.pickT (u := .bool _) (congrArg Value.bool (decide_eq_true g81)) rfl ?_)
                                        refine RunL.cons (Op1.pickF (u := .bool _) (congrArg Value.bool g80) rfl ?_)
                                        refine RunL.nil ?_
                                        refine run_cond_split rfl (fun g82 => ?_) (fun g82 => ?_)
                                        · skip
                                          exfalso
                                          rw [hf.c4 (by omega)] at g82; cases g82
                                        · skip
                                          refine run_skip ?_
                                          refine run_inBlock ?_
                                          refine run_region ?_
                                          refine RunL.cons (Op1.move (v := .int .i64 _) rfl ?_)
                                          refine RunL.cons (Op1.addN rfl rfl rfl (wrap_i64 (by omega) (by omega)) ?_)
                                          refine RunL.cons (Op1.assign (v := .int .i64 _) rfl ?_)
                                          refine RunL.nil ?_
                                          refine run_inLoop ?_
                                          replace hst := hst.pick (.cons (.there (.here)) (.cons (.there (.here)) (.cons (.there (.here)) (.cons (.there (.here)) .nil))))
                                          replace hst := hst.toD (L1 := [])
                                          exact ih60 (i + 1) _ w (by omega) hst (by omega) ⟨rfl, rfl, rfl, rfl, rfl, rfl, trivial⟩ ⟨(congrArg (Value.int .i64) (by omega)), trivial⟩
                                      · skip
                                        refine RunL.omit (t := 178) rfl (congrArg Value.bool (decide_eq_false g81)) rfl ?_
                                        refine RunL.omit (t := 178) rfl (congrArg Value.bool (decide_eq_false g81)) rfl ?_
                                        refine RunL.omit (t := 178) rfl (congrArg Value.bool (decide_eq_false g81)) rfl ?_
                                        refine RunL.omit (t := 178) rfl (congrArg Value.bool (decide_eq_false g81)) rfl ?_
                                        refine RunL.omit (t := 178) rfl (congrArg Value.bool (decide_eq_false g81)) rfl ?_
                                        refine RunL.omit (t := 178) rfl (congrArg Value.bool (decide_eq_false g81)) rfl ?_
                                        refine RunL.take (t := 173) rfl (congrArg Value.bool g80) (Op1.pickF (u := .bool _) (congrArg Value.bool (decide_eq_false g81)) rfl ?_)
                                        refine RunL.cons (Op1.pickF (u := .bool _) (congrArg Value.bool g80) rfl ?_)
                                        refine RunL.nil ?_
                                        refine run_cond_false (congrArg Value.bool (rfl : false = _)) ?_
                                        refine run_skip ?_
                                        refine run_inBlock ?_
                                        refine run_region ?_
                                        refine RunL.cons (Op1.move (v := .int .i64 _) rfl ?_)
                                        refine RunL.cons (Op1.addN rfl rfl rfl (wrap_i64 (by omega) (by omega)) ?_)
                                        refine RunL.cons (Op1.assign (v := .int .i64 _) rfl ?_)
                                        refine RunL.nil ?_
                                        refine run_inLoop ?_
                                        replace hst := hst.pick (.cons (.there (.here)) (.cons (.there (.here)) (.cons (.there (.here)) (.cons (.there (.here)) .nil))))
                                        replace hst := hst.toD (L1 := [])
                                        exact ih60 (i + 1) _ w (by omega) hst (by omega) ⟨rfl, rfl, rfl, rfl, rfl, rfl, trivial⟩ ⟨(congrArg (Value.int .i64) (by omega)), trivial⟩
                                  · skip
                                    refine RunL.omit (t := 163) rfl (congrArg Value.bool (decide_eq_false g79)) rfl ?_
                                    refine RunL.omit (t := 163) rfl (congrArg Value.bool (decide_eq_false g79)) rfl ?_
                                    refine RunL.omit (t := 163) rfl (congrArg Value.bool (decide_eq_false g79)) rfl ?_
                                    refine RunL.omit (t := 163) rfl (congrArg Value.bool (decide_eq_false g79)) rfl ?_
                                    refine RunL.omit (t := 163) rfl (congrArg Value.bool (decide_eq_false g79)) rfl ?_
                                    refine RunL.omit (t := 163) rfl (congrArg Value.bool (decide_eq_false g79)) rfl ?_
                                    refine RunL.omit (t := 163) rfl (congrArg Value.bool (decide_eq_false g79)) rfl ?_
                                    refine RunL.take (t := 159) rfl (congrArg Value.bool g78) (Op1.pickF (u := .bool _) (congrArg Value.bool (decide_eq_false g79)) rfl ?_)
                                    refine RunL.cons (Op1.pickF (u := .bool _) (congrArg Value.bool g78) rfl ?_)
                                    refine RunL.cons (Op1.move (v := .bool _) rfl ?_)
                                    refine RunL.take (t := 173) rfl (congrArg Value.bool (rfl : false = _)) (Op1.fieldAddr fld56_2 rfl ?_)
                                    refine RunL.take (t := 173) rfl (congrArg Value.bool (rfl : false = _)) (Op1.load1 (v := .int .i64 _) ty3 rfl rfl (hst.cellL (.head _) rfl) ?_)
                                    refine RunL.take (t := 173) rfl (congrArg Value.bool (rfl : false = _)) (Op1.move (v := .int .i64 _) rfl ?_)
                                    refine RunL.take (t := 173) rfl (congrArg Value.bool (rfl : false = _)) (Op1.lss rfl rfl ?_)
                                    refine RunL.take (t := 173) rfl (congrArg Value.bool (rfl : false = _)) (Op1.move (v := .bool _) rfl ?_)
                                    refine RunL.splitD (d := 178) rfl (fun g83 => ?_) (fun g83 => ?_)
                                    · skip
                                      refine RunL.take (t := 178) rfl (congrArg Value.bool (decide_eq_true g83)) (Op1.loadA (vs := [.int .i32 _, .int .i32 _, .int .i32 _, .int .i32 _, .int .i32 _, .int .i32 _, .int .i32 _, .int .i32 _, .int .i32 _]) ty27 rfl rfl rfl (cells_of_obj (n := 9) (hst.objL (.tail _ (.tail _ (.tail _ (.tail _ (.head _)))))) _ rfl) ?_)
                                      refine RunL.take (t := 178) rfl (congrArg Value.bool (decide_eq_true g83)) (Op1.fieldAddr fld56_2 rfl ?_)
                                      refine RunL.take (t := 178) rfl (congrArg Value.bool (decide_eq_true g83)) (Op1.load1 (v := .int .i64 _) ty3 rfl rfl (hst.cellL (.head _) rfl) ?_)
                                      refine RunL.take (t := 178) rfl (congrArg Value.bool (decide_eq_true g83)) (Op1.fieldAddr fld56_0 rfl ?_)
                                      refine RunL.take (t := 178) rfl (congrArg Value.bool (decide_eq_true g83)) (Op1.load1 (v := .int .i64 _) ty3 rfl rfl (hst.cellL (.head _) rfl) ?_)
                                      refine RunL.take (t := 178) rfl (congrArg Value.bool (decide_eq_true g83)) (Op1.call3 (v1 := .agg #[.int .i32 _, .int .i32 _, .int .i32 _, .int .i32 _, .int .i32 _, .int .i32 _, .int .i32 _, .int .i32 _, .int .i32 _]) (v2 := .int .i64 _) (v3 := .int .i64 _) ent34 rfl rfl rfl rfl ((edge_covers _ _ _ _ _ _ _ _ _ _ _ _).mono fun v w hp => ?_))
                                      obtain ⟨rfl, hp⟩ := hp
                                      replace hst := hst.keepc hp
                                      clear hp
                                      refine RunL.take (t := 173) rfl (congrArg Value.bool (rfl : false = _)) (Op1.pickT (u := .bool _) (congrArg Value.bool (decide_eq_true g83)) rfl ?_)
                                      refine RunL.cons (Op1.pickF (u := .bool _) (congrArg Value.bool (rfl : false = _)) rfl ?_)
                                      refine RunL.nil ?_
                                      refine run_cond_split rfl (fun g84 => ?_) (fun g84 => ?_)
                                      · skip
                                        exfalso
                                        rw [hf.c4 (by omega)] at g84; cases g84
                                      · skip
                                        refine run_skip ?_
                                        refine run_inBlock ?_
                                        refine run_region ?_
                                        refine RunL.cons (Op1.move (v := .int .i64 _) rfl ?_)
                                        refine RunL.cons (Op1.addN rfl rfl rfl (wrap_i64 (by omega) (by omega)) ?_)
                                        refine RunL.cons (Op1.assign (v := .int .i64 _) rfl ?_)
                                        refine RunL.nil ?_
                                        refine run_inLoop ?_
                                        replace hst := hst.pick (.cons (.there (.here)) (.cons (.there (.here)) (.cons (.there (.here)) (.cons (.there (.here)) .nil))))
                                        replace hst := hst.toD (L1 := [])
                                        exact ih60 (i + 1) _ w (by omega) hst (by omega) ⟨rfl, rfl, rfl, rfl, rfl, rfl, trivial⟩ ⟨(congrArg (Value.int .i64) (by omega)), trivial⟩
                                    · skip
                                      refine RunL.omit (t := 178) rfl (congrArg Value.bool (decide_eq_false g83)) rfl ?_
                                      refine RunL.omit (t := 178) rfl (congrArg Value.bool (decide_eq_false g83)) rfl ?_
                                      refine RunL.omit (t := 178) rfl (congrArg Value.bool (decide_eq_false g83)) rfl ?_
                                      refine RunL.omit (t := 178) rfl (congrArg Value.bool (decide_eq_false g83)) rfl ?_
                                      refine RunL.omit (t := 178) rfl (congrArg Value.bool (decide_eq_false g83)) rfl ?_
                                      refine RunL.omit (t := 178) rfl (congrArg Value.bool (decide_eq_false g83)) rfl ?_
                                      refine RunL.take (t := 173) rfl (congrArg Value.bool (rfl : false = _)) (Op1.pickF (u := .bool _) (congrArg Value.bool (decide_eq_false g83)) rfl ?_)
                                      refine RunL.cons (Op1.pickF (u := .bool _) (congrArg Value.bool (rfl : false = _)) rfl ?_)
                                      refine RunL.nil ?_
                                      refine run_cond_false (congrArg Value.bool (rfl : false = _)) ?_
                                      refine run_skip ?_
                                      refine run_inBlock ?_
                                      refine run_region ?_
                                      refine RunL.cons (Op1.move (v := .int .i64 _) rfl ?_)
                                      refine RunL.cons (Op1.addN rfl rfl rfl (wrap_i64 (by omega) (by omega)) ?_)
                                      refine RunL.cons (Op1.assign (v := .int .i64 _) rfl ?_)
                                      refine RunL.nil ?_
                                      refine run_inLoop ?_
                                      replace hst := hst.pick (.cons (.there (.here)) (.cons (.there (.here)) (.cons (.there (.here)) (.cons (.there (.here)) .nil))))
                                      replace hst := hst.toD (L1 := [])
                                      exact ih60 (i + 1) _ w (by omega) hst (by omega) ⟨rfl, rfl, rfl, rfl, rfl, rfl, trivial⟩ ⟨(congrArg (Value.int .i64) (by omega)), trivial⟩
              · skip
                refine RunD.omit tab63 4 rfl rfl (fun f' L' w' hc => (hc.det (j := 2) rfl rfl rfl rfl).trans (congrArg Value.bool (decide_eq_false g64))) ?_
                refine RunD.omit tab63 5 rfl rfl (fun f' L' w' hc => (hc.det (j := 2) rfl rfl rfl rfl).trans (congrArg Value.bool (decide_eq_false g64))) ?_
                refine RunD.omit tab63 6 rfl rfl (fun f' L' w' hc => (hc.det (j := 2) rfl rfl rfl rfl).trans (congrArg Value.bool (decide_eq_false g64))) ?_
                refine RunD.omit tab63 7 rfl rfl (fun f' L' w' hc => (hc.det (j := 2) rfl rfl rfl rfl).trans (congrArg Value.bool (decide_eq_false g64))) ?_
                refine RunD.omit tab63 8 rfl rfl (fun f' L' w' hc => (hc.det (j := 2) rfl rfl rfl rfl).trans (congrArg Value.bool (decide_eq_false g64))) ?_
                refine RunD.omit tab63 9 rfl rfl (fun f' L' w' hc => (hc.det (j := 2) rfl rfl rfl rfl).trans (congrArg Value.bool (decide_eq_false g64))) ?_
                refine RunD.omit tab63 10 rfl rfl (fun f' L' w' hc => (hc.det (j := 2) rfl rfl rfl rfl).trans (congrArg Value.bool (decide_eq_false g64))) ?_
                refine RunD.omit tab63 11 rfl rfl (fun f' L' w' hc => (hc.det (j := 2) rfl rfl rfl rfl).trans (congrArg Value.bool (decide_eq_false g64))) ?_
                refine RunD.omit tab63 12 rfl rfl (fun f' L' w' hc => (hc.det (j := 2) rfl rfl rfl rfl).trans (congrArg Value.bool (decide_eq_false g64))) ?_
                refine RunD.op (det _) tab63 13 (fun f' L' w' hc => Op1.pickF (u := .bool _) (((hc.det (j := 2) rfl rfl rfl rfl)).trans (congrArg Value.bool (decide_eq_false g64))) rfl ⟨[], ⟨rfl, rfl⟩, hc.st⟩) ?_
                refine RunD.op (det _) tab63 14 (fun f' L' w' hc => Op1.move (v := .bool _) (hc.det (j := 12) rfl rfl rfl rfl) ⟨[], ⟨rfl, rfl⟩, hc.st⟩) ?_
                refine RunD.take (det _) tab63 15 rfl (fun f' L' w' hc => (hc.det (j := 13) rfl rfl rfl rfl).trans (congrArg Value.bool (rfl : false = _))) (fun f' L' w' hc => Op1.fieldAddr fld56_1 (hc.old (v := .pointer (some ⟨_, _, none⟩)) rfl rfl rfl) ⟨[], ⟨rfl, rfl⟩, hc.st⟩) ?_
                refine RunD.take (det _) tab63 16 rfl (fun f' L' w' hc => (hc.det (j := 13) rfl rfl rfl rfl).trans (congrArg Value.bool (rfl : false = _))) (fun f' L' w' hc => Op1.load1 (v := .int .i64 _) ty3 rfl (hc.det (j := 14) rfl rfl rfl rfl) (hc.st.cellL (List.mem_append_right _ (.head _)) rfl) ⟨[], ⟨rfl, rfl⟩, hc.st⟩) ?_
                refine RunD.take (det _) tab63 17 rfl (fun f' L' w' hc => (hc.det (j := 13) rfl rfl rfl rfl).trans (congrArg Value.bool (rfl : false = _))) (fun f' L' w' hc => Op1.fieldAddr fld56_2 (hc.old (v := .pointer (some ⟨_, _, none⟩)) rfl rfl rfl) ⟨[], ⟨rfl, rfl⟩, hc.st⟩) ?_
                refine RunD.take (det _) tab63 18 rfl (fun f' L' w' hc => (hc.det (j := 13) rfl rfl rfl rfl).trans (congrArg Value.bool (rfl : false = _))) (fun f' L' w' hc => Op1.load1 (v := .int .i64 _) ty3 rfl (hc.det (j := 16) rfl rfl rfl rfl) (hc.st.cellL (List.mem_append_right _ (.head _)) rfl) ⟨[], ⟨rfl, rfl⟩, hc.st⟩) ?_
                refine RunD.take (det _) tab63 19 rfl (fun f' L' w' hc => (hc.det (j := 13) rfl rfl rfl rfl).trans (congrArg Value.bool (rfl : false = _))) (fun f' L' w' hc => Op1.geq (hc.det (j := 15) rfl rfl rfl rfl) (hc.det (j := 17) rfl rfl rfl rfl) ⟨[], ⟨rfl, rfl⟩, hc.st⟩) ?_
                refine RunD.op (det _) tab63 20 (fun f' L' w' hc => Op1.pickF (u := .bool _) (((hc.det (j := 13) rfl rfl rfl rfl)).trans (congrArg Value.bool (rfl : false = _))) (hc.det (j := 18) rfl rfl rfl rfl) ⟨[], ⟨rfl, rfl⟩, hc.st⟩) ?_
                refine RunD.op (det _) tab63 21 (fun f' L' w' hc => Op1.move (v := .bool _) (hc.det (j := 19) rfl rfl rfl rfl) ⟨[], ⟨rfl, rfl⟩, hc.st⟩) ?_
                refine RunD.splitD (j := 20) rfl (fun g85 => ?_) (fun g85 => ?_)
                · skip
                  exfalso
                  omega
                · skip
                  refine RunD.take (det _) tab63 22 rfl (fun f' L' w' hc => (hc.det (j := 20) rfl rfl rfl rfl).trans (congrArg Value.bool (decide_eq_false g85))) (fun f' L' w' hc => Op1.move (v := .bool _) (hc.old (v := .bool _) rfl rfl rfl) ⟨[], ⟨rfl, rfl⟩, hc.st⟩) ?_
                  refine RunD.take (det _) tab63 23 rfl (fun f' L' w' hc => (hc.det (j := 20) rfl rfl rfl rfl).trans (congrArg Value.bool (decide_eq_false g85))) (fun f' L' w' hc => Op1.not (hc.det (j := 21) rfl rfl rfl rfl) ⟨[], ⟨rfl, rfl⟩, hc.st⟩) ?_
                  refine RunD.op (det _) tab63 24 (fun f' L' w' hc => Op1.pickF (u := .bool _) (((hc.det (j := 20) rfl rfl rfl rfl)).trans (congrArg Value.bool (decide_eq_false g85))) (hc.det (j := 22) rfl rfl rfl rfl) ⟨[], ⟨rfl, rfl⟩, hc.st⟩) ?_
                  refine RunD.op (det _) tab63 25 (fun f' L' w' hc => Op1.move (v := .bool _) (hc.det (j := 23) rfl rfl rfl rfl) ⟨[], ⟨rfl, rfl⟩, hc.st⟩) ?_
                  refine RunD.split (j := 24) rfl (fun g86 => ?_) (fun g86 => ?_)
                  · skip
                    exfalso
                    rw [hf.is] at g86; cases g86
                  · skip
                    refine RunD.take (det _) tab63 26 rfl (fun f' L' w' hc => (hc.det (j := 24) rfl rfl rfl rfl).trans (congrArg Value.bool g86)) (fun f' L' w' hc => Op1.fieldAddr fld56_0 (hc.old (v := .pointer (some ⟨_, _, none⟩)) rfl rfl rfl) ⟨[], ⟨rfl, rfl⟩, hc.st⟩) ?_
                    refine RunD.take (det _) tab63 27 rfl (fun f' L' w' hc => (hc.det (j := 24) rfl rfl rfl rfl).trans (congrArg Value.bool g86)) (fun f' L' w' hc => Op1.load1 (v := .int .i64 _) ty3 rfl (hc.det (j := 25) rfl rfl rfl rfl) (hc.st.cellL (List.mem_append_right _ (.head _)) rfl) ⟨[], ⟨rfl, rfl⟩, hc.st⟩) ?_
                    refine RunD.take (det _) tab63 28 rfl (fun f' L' w' hc => (hc.det (j := 24) rfl rfl rfl rfl).trans (congrArg Value.bool g86)) (fun f' L' w' hc => Op1.fieldAddr fld47_0 (hc.old (v := .pointer (some ⟨_, _, none⟩)) rfl rfl rfl) ⟨[], ⟨rfl, rfl⟩, hc.st⟩) ?_
                    refine RunD.take (det _) tab63 29 rfl (fun f' L' w' hc => (hc.det (j := 24) rfl rfl rfl rfl).trans (congrArg Value.bool g86)) (fun f' L' w' hc => Op1.load1 (v := .int .i64 _) ty3 rfl (hc.det (j := 27) rfl rfl rfl rfl) (hc.st.cellL (List.mem_append_right _ (.tail _ (.head _))) rfl) ⟨[], ⟨rfl, rfl⟩, hc.st⟩) ?_
                    refine RunD.take (det _) tab63 30 rfl (fun f' L' w' hc => (hc.det (j := 24) rfl rfl rfl rfl).trans (congrArg Value.bool g86)) (fun f' L' w' hc => Op1.lss (hc.det (j := 26) rfl rfl rfl rfl) (hc.det (j := 28) rfl rfl rfl rfl) ⟨[], ⟨rfl, rfl⟩, hc.st⟩) ?_
                    refine RunD.op (det _) tab63 31 (fun f' L' w' hc => Op1.pickF (u := .bool _) (((hc.det (j := 24) rfl rfl rfl rfl)).trans (congrArg Value.bool g86)) (hc.det (j := 29) rfl rfl rfl rfl) ⟨[], ⟨rfl, rfl⟩, hc.st⟩) ?_
                    refine RunD.op (det _) tab63 32 (fun f' L' w' hc => Op1.move (v := .bool _) (hc.det (j := 30) rfl rfl rfl rfl) ⟨[], ⟨rfl, rfl⟩, hc.st⟩) ?_
                    refine RunD.splitD (j := 31) rfl (fun g87 => ?_) (fun g87 => ?_)
                    · skip
                      exfalso
                      omega
                    · skip
                      refine RunD.take (det _) tab63 33 rfl (fun f' L' w' hc => (hc.det (j := 31) rfl rfl rfl rfl).trans (congrArg Value.bool (decide_eq_false g87))) (fun f' L' w' hc => Op1.fieldAddr fld56_0 (hc.old (v := .pointer (some ⟨_, _, none⟩)) rfl rfl rfl) ⟨[], ⟨rfl, rfl⟩, hc.st⟩) ?_
                      refine RunD.take (det _) tab63 34 rfl (fun f' L' w' hc => (hc.det (j := 31) rfl rfl rfl rfl).trans (congrArg Value.bool (decide_eq_false g87))) (fun f' L' w' hc => Op1.load1 (v := .int .i64 _) ty3 rfl (hc.det (j := 32) rfl rfl rfl rfl) (hc.st.cellL (List.mem_append_right _ (.head _)) rfl) ⟨[], ⟨rfl, rfl⟩, hc.st⟩) ?_
                      refine RunD.take (det _) tab63 35 rfl (fun f' L' w' hc => (hc.det (j := 31) rfl rfl rfl rfl).trans (congrArg Value.bool (decide_eq_false g87))) (fun f' L' w' hc => Op1.fieldAddr fld47_1 (hc.old (v := .pointer (some ⟨_, _, none⟩)) rfl rfl rfl) ⟨[], ⟨rfl, rfl⟩, hc.st⟩) ?_
                      refine RunD.take (det _) tab63 36 rfl (fun f' L' w' hc => (hc.det (j := 31) rfl rfl rfl rfl).trans (congrArg Value.bool (decide_eq_false g87))) (fun f' L' w' hc => Op1.load1 (v := .int .i64 _) ty3 rfl (hc.det (j := 34) rfl rfl rfl rfl) (hc.st.cellL (List.mem_append_right _ (.tail _ (.head _))) rfl) ⟨[], ⟨rfl, rfl⟩, hc.st⟩) ?_
                      refine RunD.take (det _) tab63 37 rfl (fun f' L' w' hc => (hc.det (j := 31) rfl rfl rfl rfl).trans (congrArg Value.bool (decide_eq_false g87))) (fun f' L' w' hc => Op1.geq (hc.det (j := 33) rfl rfl rfl rfl) (hc.det (j := 35) rfl rfl rfl rfl) ⟨[], ⟨rfl, rfl⟩, hc.st⟩) ?_
                      refine RunD.op (det _) tab63 38 (fun f' L' w' hc => Op1.pickF (u := .bool _) (((hc.det (j := 31) rfl rfl rfl rfl)).trans (congrArg Value.bool (decide_eq_false g87))) (hc.det (j := 36) rfl rfl rfl rfl) ⟨[], ⟨rfl, rfl⟩, hc.st⟩) ?_
                      refine RunD.op (det _) tab63 39 (fun f' L' w' hc => Op1.move (v := .bool _) (hc.det (j := 37) rfl rfl rfl rfl) ⟨[], ⟨rfl, rfl⟩, hc.st⟩) ?_
                      refine RunD.splitD (j := 38) rfl (fun g88 => ?_) (fun g88 => ?_)
                      · skip
                        exfalso
                        omega
                      · skip
                        refine RunD.take (det _) tab63 40 rfl (fun f' L' w' hc => (hc.det (j := 38) rfl rfl rfl rfl).trans (congrArg Value.bool (decide_eq_false g88))) (fun f' L' w' hc => Op1.fieldAddr fld56_1 (hc.old (v := .pointer (some ⟨_, _, none⟩)) rfl rfl rfl) ⟨[], ⟨rfl, rfl⟩, hc.st⟩) ?_
                        refine RunD.take (det _) tab63 41 rfl (fun f' L' w' hc => (hc.det (j := 38) rfl rfl rfl rfl).trans (congrArg Value.bool (decide_eq_false g88))) (fun f' L' w' hc => Op1.load1 (v := .int .i64 _) ty3 rfl (hc.det (j := 39) rfl rfl rfl rfl) (hc.st.cellL (List.mem_append_right _ (.head _)) rfl) ⟨[], ⟨rfl, rfl⟩, hc.st⟩) ?_
                        refine RunD.take (det _) tab63 42 rfl (fun f' L' w' hc => (hc.det (j := 38) rfl rfl rfl rfl).trans (congrArg Value.bool (decide_eq_false g88))) (fun f' L' w' hc => Op1.fieldAddr fld47_0 (hc.old (v := .pointer (some ⟨_, _, none⟩)) rfl rfl rfl) ⟨[], ⟨rfl, rfl⟩, hc.st⟩) ?_
                        refine RunD.take (det _) tab63 43 rfl (fun f' L' w' hc => (hc.det (j := 38) rfl rfl rfl rfl).trans (congrArg Value.bool (decide_eq_false g88))) (fun f' L' w' hc => Op1.load1 (v := .int .i64 _) ty3 rfl (hc.det (j := 41) rfl rfl rfl rfl) (hc.st.cellL (List.mem_append_right _ (.tail _ (.tail _ (.head _)))) rfl) ⟨[], ⟨rfl, rfl⟩, hc.st⟩) ?_
                        refine RunD.take (det _) tab63 44 rfl (fun f' L' w' hc => (hc.det (j := 38) rfl rfl rfl rfl).trans (congrArg Value.bool (decide_eq_false g88))) (fun f' L' w' hc => Op1.lss (hc.det (j := 40) rfl rfl rfl rfl) (hc.det (j := 42) rfl rfl rfl rfl) ⟨[], ⟨rfl, rfl⟩, hc.st⟩) ?_
                        refine RunD.op (det _) tab63 45 (fun f' L' w' hc => Op1.pickF (u := .bool _) (((hc.det (j := 38) rfl rfl rfl rfl)).trans (congrArg Value.bool (decide_eq_false g88))) (hc.det (j := 43) rfl rfl rfl rfl) ⟨[], ⟨rfl, rfl⟩, hc.st⟩) ?_
                        refine RunD.op (det _) tab63 46 (fun f' L' w' hc => Op1.move (v := .bool _) (hc.det (j := 44) rfl rfl rfl rfl) ⟨[], ⟨rfl, rfl⟩, hc.st⟩) ?_
                        refine RunD.splitD (j := 45) rfl (fun g89 => ?_) (fun g89 => ?_)
                        · skip
                          exfalso
                          omega
                        · skip
                          refine RunD.take (det _) tab63 47 rfl (fun f' L' w' hc => (hc.det (j := 45) rfl rfl rfl rfl).trans (congrArg Value.bool (decide_eq_false g89))) (fun f' L' w' hc => Op1.fieldAddr fld56_2 (hc.old (v := .pointer (some ⟨_, _, none⟩)) rfl rfl rfl) ⟨[], ⟨rfl, rfl⟩, hc.st⟩) ?_
                          refine RunD.take (det _) tab63 48 rfl (fun f' L' w' hc => (hc.det (j := 45) rfl rfl rfl rfl).trans (congrArg Value.bool (decide_eq_false g89))) (fun f' L' w' hc => Op1.load1 (v := .int .i64 _) ty3 rfl (hc.det (j := 46) rfl rfl rfl rfl) (hc.st.cellL (List.mem_append_right _ (.head _)) rfl) ⟨[], ⟨rfl, rfl⟩, hc.st⟩) ?_
                          refine RunD.take (det _) tab63 49 rfl (fun f' L' w' hc => (hc.det (j := 45) rfl rfl rfl rfl).trans (congrArg Value.bool (decide_eq_false g89))) (fun f' L' w' hc => Op1.fieldAddr fld47_1 (hc.old (v := .pointer (some ⟨_, _, none⟩)) rfl rfl rfl) ⟨[], ⟨rfl, rfl⟩, hc.st⟩) ?_
                          refine RunD.take (det _) tab63 50 rfl (fun f' L' w' hc => (hc.det (j := 45) rfl rfl rfl rfl).trans (congrArg Value.bool (decide_eq_false g89))) (fun f' L' w' hc => Op1.load1 (v := .int .i64 _) ty3 rfl (hc.det (j := 48) rfl rfl rfl rfl) (hc.st.cellL (List.mem_append_right _ (.tail _ (.tail _ (.head _)))) rfl) ⟨[], ⟨rfl, rfl⟩, hc.st⟩) ?_
                          refine RunD.fin followsMixed tab63 hst rfl (fun f90 w R93 hs91 hd92 hr94 hst => ?_)
                          obtain ⟨h90_, r0⟩ := hd92 0 90 rfl rfl
                          obtain ⟨h91_, r1⟩ := hd92 1 91 rfl rfl
                          obtain ⟨h92_, r2⟩ := hd92 2 92 rfl rfl
                          obtain ⟨h93_, r3⟩ := hd92 3 93 rfl rfl
                          obtain ⟨h94_, r4⟩ := hd92 4 94 rfl rfl
                          obtain ⟨h95_, r5⟩ := hd92 5 95 rfl rfl
                          obtain ⟨h96_, r6⟩ := hd92 6 96 rfl rfl
                          obtain ⟨h97_, r7⟩ := hd92 7 97 rfl rfl
                          obtain ⟨h98_, r8⟩ := hd92 8 98 rfl rfl
                          obtain ⟨h99_, r9⟩ := hd92 9 99 rfl rfl
                          obtain ⟨h100_, r10⟩ := hd92 10 100 rfl rfl
                          obtain ⟨h101_, r11⟩ := hd92 11 101 rfl rfl
                          obtain ⟨h102_, r12⟩ := hd92 12 102 rfl rfl
                          obtain ⟨h103_, r13⟩ := hd92 13 103 rfl rfl
                          obtain ⟨h104_, r14⟩ := hd92 14 104 rfl rfl
                          obtain ⟨h105_, r15⟩ := hd92 15 105 rfl rfl
                          obtain ⟨h106_, r16⟩ := hd92 16 106 rfl rfl
                          obtain ⟨h107_, r17⟩ := hd92 17 107 rfl rfl
                          obtain ⟨h108_, r18⟩ := hd92 18 108 rfl rfl
                          obtain ⟨h109_, r19⟩ := hd92 19 109 rfl rfl
                          obtain ⟨h110_, r20⟩ := hd92 20 110 rfl rfl
                          obtain ⟨h111_, r21⟩ := hd92 21 111 rfl rfl
                          obtain ⟨h112_, r22⟩ := hd92 22 112 rfl rfl
                          obtain ⟨h113_, r23⟩ := hd92 23 113 rfl rfl
                          obtain ⟨h114_, r24⟩ := hd92 24 114 rfl rfl
                          obtain ⟨h115_, r25⟩ := hd92 25 115 rfl rfl
                          obtain ⟨h116_, r26⟩ := hd92 26 116 rfl rfl
                          obtain ⟨h117_, r27⟩ := hd92 27 117 rfl rfl
                          obtain ⟨h118_, r28⟩ := hd92 28 118 rfl rfl
                          obtain ⟨h119_, r29⟩ := hd92 29 119 rfl rfl
                          obtain ⟨h120_, r30⟩ := hd92 30 120 rfl rfl
                          obtain ⟨h121_, r31⟩ := hd92 31 121 rfl rfl
                          obtain ⟨h122_, r32⟩ := hd92 32 122 rfl rfl
                          obtain ⟨h123_, r33⟩ := hd92 33 123 rfl rfl
                          obtain ⟨h124_, r34⟩ := hd92 34 124 rfl rfl
                          obtain ⟨h125_, r35⟩ := hd92 35 125 rfl rfl
                          obtain ⟨h126_, r36⟩ := hd92 36 126 rfl rfl
                          obtain ⟨h127_, r37⟩ := hd92 37 127 rfl rfl
                          obtain ⟨h128_, r38⟩ := hd92 38 128 rfl rfl
                          obtain ⟨h129_, r39⟩ := hd92 39 129 rfl rfl
                          obtain ⟨h130_, r40⟩ := hd92 40 130 rfl rfl
                          obtain ⟨h131_, r41⟩ := hd92 41 131 rfl rfl
                          obtain ⟨h132_, r42⟩ := hd92 42 132 rfl rfl
                          obtain ⟨h133_, r43⟩ := hd92 43 133 rfl rfl
                          obtain ⟨h134_, r44⟩ := hd92 44 134 rfl rfl
                          obtain ⟨h135_, r45⟩ := hd92 45 135 rfl rfl
                          obtain ⟨h136_, r46⟩ := hd92 46 136 rfl rfl
                          obtain ⟨h137_, r47⟩ := hd92 47 137 rfl rfl
                          obtain ⟨h138_, r48⟩ := hd92 48 138 rfl rfl
                          obtain ⟨h139_, r49⟩ := hd92 49 139 rfl rfl
                          simp only [show List.range 50 = [0, 1, 2, 3, 4, 5, 6, 7, 8, 9, 10, 11, 12, 13, 14, 15, 16, 17, 18, 19, 20, 21, 22, 23, 24, 25, 26, 27, 28, 29, 30, 31, 32, 33, 34, 35, 36, 37, 38, 39, 40, 41, 42, 43, 44, 45, 46, 47, 48, 49] from rfl, List.flatMap_cons, List.flatMap_nil, List.map_cons, List.map_nil, r0, r1, r2, r3, r4, r5, r6, r7, r8, r9, r10, r11, r12, r13, r14, r15, r16, r17, r18, r19, r20, r21, r22, r23, r24, r25, r26, r27, r28, r29, r30, r31, r32, r33, r34, r35, r36, r37, r38, r39, r40, r41, r42, r43, r44, r45, r46, r47, r48, r49, List.nil_append, List.append_nil, List.cons_append] at hst
                          refine RunL.slots (sl := [(1, .int .i64 _), (5, .pointer (some ⟨_, _, none⟩)), (11, .slice _ _ _), (14, .pointer (some ⟨_, _, none⟩)), (15, .pointer (some ⟨_, _, none⟩)), (16, .bool _), (17, .int .i64 _), (18, .pointer (some ⟨_, _, none⟩)), (135, .bool _), (137, .int .i64 _), (139, .int .i64 _)]) ⟨(hs91 1 rfl).trans rfl, (hs91 5 rfl).trans rfl, (hs91 11 rfl).trans rfl, (hs91 14 rfl).trans rfl, (hs91 15 rfl).trans rfl, (hs91 16 rfl).trans rfl, (hs91 17 rfl).trans rfl, (hs91 18 rfl).trans rfl, h135_, h137_, h139_, trivial⟩ ?_
                          clear hs91 hd92 hr94 tab63
                          refine RunL.take (t := 135) rfl (congrArg Value.bool (decide_eq_false g89)) (Op1.gtr rfl rfl ?_)
                          refine RunL.cons (Op1.pickF (u := .bool _) (congrArg Value.bool (decide_eq_false g89)) rfl ?_)
                          refine RunL.nil ?_
                          refine run_cond_dec rfl (fun g95 => ?_) (fun g95 => ?_)
                          · skip
                            exfalso
                            omega
                          · skip
                            refine run_skip ?_
                            refine run_seq ?_
                            refine run_region ?_
                            refine RunL.cons (Op1.loadA (vs := [.int .i32 _, .int .i32 _, .int .i32 _, .int .i32 _, .int .i32 _, .int .i32 _, .int .i32 _, .int .i32 _, .int .i32 _]) ty27 rfl rfl rfl (cells_of_obj (n := 9) (hst.objL (.tail _ (.tail _ (.tail _ (.tail _ (.head _)))))) _ rfl) ?_)
                            refine RunL.cons (Op1.fieldAddr fld56_1 rfl ?_)
                            refine RunL.cons (Op1.load1 (v := .int .i64 _) ty3 rfl rfl (hst.cellL (.head _) rfl) ?_)
                            refine RunL.cons (Op1.fieldAddr fld56_0 rfl ?_)
                            refine RunL.cons (Op1.load1 (v := .int .i64 _) ty3 rfl rfl (hst.cellL (.head _) rfl) ?_)
                            refine RunL.cons (Op1.call3 (v1 := .agg #[.int .i32 _, .int .i32 _, .int .i32 _, .int .i32 _, .int .i32 _, .int .i32 _, .int .i32 _, .int .i32 _, .int .i32 _]) (v2 := .int .i64 _) (v3 := .int .i64 _) ent34 rfl rfl rfl rfl ((edge_covers _ _ _ _ _ _ _ _ _ _ _ _).mono fun v w hp => ?_))
                            obtain ⟨rfl, hp⟩ := hp
                            replace hst := hst.keepc hp
                            clear hp
                            refine RunL.cons (Op1.not rfl ?_)
                            refine RunL.cons (Op1.move (v := .bool _) rfl ?_)
                            refine RunL.split (d := 149) rfl (fun g96 => ?_) (fun g96 => ?_)
                            · skip
                              exfalso
                              rw [hf.c1] at g96; cases g96
                            · skip
                              refine RunL.take (t := 149) rfl (congrArg Value.bool g96) (Op1.loadA (vs := [.int .i32 _, .int .i32 _, .int .i32 _, .int .i32 _, .int .i32 _, .int .i32 _, .int .i32 _, .int .i32 _, .int .i32 _]) ty27 rfl rfl rfl (cells_of_obj (n := 9) (hst.objL (.tail _ (.tail _ (.tail _ (.tail _ (.head _)))))) _ rfl) ?_)
                              refine RunL.take (t := 149) rfl (congrArg Value.bool g96) (Op1.fieldAddr fld56_2 rfl ?_)
                              refine RunL.take (t := 149) rfl (congrArg Value.bool g96) (Op1.load1 (v := .int .i64 _) ty3 rfl rfl (hst.cellL (.head _) rfl) ?_)
                              refine RunL.take (t := 149) rfl (congrArg Value.bool g96) (Op1.subN rfl rfl rfl (wrap_i64 (by omega) (by omega)) ?_)
                              refine RunL.take (t := 149) rfl (congrArg Value.bool g96) (Op1.fieldAddr fld56_0 rfl ?_)
                              refine RunL.take (t := 149) rfl (congrArg Value.bool g96) (Op1.load1 (v := .int .i64 _) ty3 rfl rfl (hst.cellL (.head _) rfl) ?_)
                              refine RunL.take (t := 149) rfl (congrArg Value.bool g96) (Op1.call3 (v1 := .agg #[.int .i32 _, .int .i32 _, .int .i32 _, .int .i32 _, .int .i32 _, .int .i32 _, .int .i32 _, .int .i32 _, .int .i32 _]) (v2 := .int .i64 _) (v3 := .int .i64 _) ent34 rfl rfl rfl rfl ((edge_covers _ _ _ _ _ _ _ _ _ _ _ _).mono fun v w hp => ?_))
                              obtain ⟨rfl, hp⟩ := hp
                              replace hst := hst.keepc hp
                              clear hp
                              refine RunL.take (t := 149) rfl (congrArg Value.bool g96) (Op1.not rfl ?_)
                              refine RunL.cons (Op1.pickF (u := .bool _) (congrArg Value.bool g96) rfl ?_)
                              refine RunL.cons (Op1.move (v := .bool _) rfl ?_)
                              refine RunL.split (d := 159) rfl (fun g97 => ?_) (fun g97 => ?_)
                              · skip
                                exfalso
                                rw [hf.c2] at g97; cases g97
                              · skip
                                refine RunL.take (t := 159) rfl (congrArg Value.bool g97) (Op1.fieldAddr fld56_1 rfl ?_)
                                refine RunL.take (t := 159) rfl (congrArg Value.bool g97) (Op1.load1 (v := .int .i64 _) ty3 rfl rfl (hst.cellL (.head _) rfl) ?_)
                                refine RunL.take (t := 159) rfl (congrArg Value.bool g97) (Op1.gtr rfl rfl ?_)
                                refine RunL.take (t := 159) rfl (congrArg Value.bool g97) (Op1.move (v := .bool _) rfl ?_)
                                refine RunL.splitD (d := 163) rfl (fun g98 => ?_) (fun g98 => ?_)
                                · skip
                                  refine RunL.take (t := 163) rfl (congrArg Value.bool (decide_eq_true g98)) (Op1.loadA (vs := [.int .i32 _, .int .i32 _, .int .i32 _, .int .i32 _, .int .i32 _, .int .i32 _, .int .i32 _, .int .i32 _, .int .i32 _]) ty27 rfl rfl rfl (cells_of_obj (n := 9) (hst.objL (.tail _ (.tail _ (.tail _ (.tail _ (.head _)))))) _ rfl) ?_)
                                  refine RunL.take (t := 163) rfl (congrArg Value.bool (decide_eq_true g98)) (Op1.fieldAddr fld56_1 rfl ?_)
                                  refine RunL.take (t := 163) rfl (congrArg Value.bool (decide_eq_true g98)) (Op1.load1 (v := .int .i64 _) ty3 rfl rfl (hst.cellL (.head _) rfl) ?_)
                                  refine RunL.take (t := 163) rfl (congrArg Value.bool (decide_eq_true g98)) (Op1.subN rfl rfl rfl (wrap_i64 (by omega) (by omega)) ?_)
                                  refine RunL.take (t := 163) rfl (congrArg Value.bool (decide_eq_true g98)) (Op1.fieldAddr fld56_0 rfl ?_)
                                  refine RunL.take (t := 163) rfl (congrArg Value.bool (decide_eq_true g98)) (Op1.load1 (v := .int .i64 _) ty3 rfl rfl (hst.cellL (.head _) rfl) ?_)
                                  refine RunL.take (t := 163) rfl (congrArg Value.bool (decide_eq_true g98)) (Op1.call3 (v1 := .agg #[.int .i32 _, .int .i32 _, .int .i32 _, .int .i32 _, .int .i32 _, .int .i32 _, .int .i32 _, .int .i32 _, .int .i32 _]) (v2 := .int .i64 _) (v3 := .int .i64 _) ent34 rfl rfl rfl rfl ((edge_covers _ _ _ _ _ _ _ _ _ _ _ _).mono fun v w hp => ?_))
                                  obtain ⟨rfl, hp⟩ := hp
                                  replace hst := hst.keepc hp
                                  clear hp
                                  refine RunL.take (t := 159) rfl (congrArg Value.bool g97) (Op1.pickT (u := .bool _) (congrArg Value.bool (decide_eq_true g98)) rfl ?_)
                                  refine RunL.cons (Op1.pickF (u := .bool _) (congrArg Value.bool g97) rfl ?_)
                                  refine RunL.cons (Op1.move (v := .bool _) rfl ?_)
                                  refine RunL.split (d := 173) rfl (fun g99 => ?_) (fun g99 => ?_)
                                  · skip
                                    exfalso
                                    rw [hf.c3 (by omega)] at g99; cases g99
                                  · skip
                                    refine RunL.take (t := 173) rfl (congrArg Value.bool g99) (Op1.fieldAddr fld56_2 rfl ?_)
                                    refine RunL.take (t := 173) rfl (congrArg Value.bool g99) (Op1.load1 (v := .int .i64 _) ty3 rfl rfl (hst.cellL (.head _) rfl) ?_)
                                    refine RunL.take (t := 173) rfl (congrArg Value.bool g99) (Op1.move (v := .int .i64 _) rfl ?_)
                                    refine RunL.take (t := 173) rfl (congrArg Value.bool g99) (Op1.lss rfl rfl ?_)
                                    refine RunL.take (t := 173) rfl (congrArg Value.bool g99) (Op1.move (v := .bool _) rfl ?_)
                                    refine RunL.splitD (d := 178) rfl (fun g100 => ?_) (fun g100 => ?_)
                                    · skip
                                      refine RunL.take (t := 178) rfl (congrArg Value.bool (decide_eq_true g100)) (Op1.loadA (vs := [.int .i32 _, .int .i32 _, .int .i32 _, .int .i32 _, .int .i32 _, .int .i32 _, .int .i32 _, .int .i32 _, .int .i32 _]) ty27 rfl rfl rfl (cells_of_obj (n := 9) (hst.objL (.tail _ (.tail _ (.tail _ (.tail _ (.head _)))))) _ rfl) ?_)
                                      refine RunL.take (t := 178) rfl (congrArg Value.bool (decide_eq_true g100)) (Op1.fieldAddr fld56_2 rfl ?_)
                                      refine RunL.take (t := 178) rfl (congrArg Value.bool (decide_eq_true g100)) (Op1.load1 (v := .int .i64 _) ty3 rfl rfl (hst.cellL (.head _) rfl) ?_)
                                      refine RunL.take (t := 178) rfl (congrArg Value.bool (decide_eq_true g100)) (Op1.fieldAddr fld56_0 rfl ?_)
                                      refine RunL.take (t := 178) rfl (congrArg Value.bool (decide_eq_true g100)) (Op1.load1 (v := .int .i64 _) ty3 rfl rfl (hst.cellL (.head _) rfl) ?_)
                                      refine RunL.take (t := 178) rfl (congrArg Value.bool (decide_eq_true g100)) (Op1.call3 (v1 := .agg #[.int .i32 _, .int .i32 _, .int .i32 _, .int .i32 _, .int .i32 _, .int .i32 _, .int .i32 _, .int .i32 _, .int .i32 _]) (v2 := .int .i64 _) (v3 := .int .i64 _) ent34 rfl rfl rfl rfl ((edge_covers _ _ _ _ _ _ _ _ _ _ _ _).mono fun v w hp => ?_))
                                      obtain ⟨rfl, hp⟩ := hp
                                      replace hst := hst.keepc hp
                                      clear hp
                                      refine RunL.take (t := 173) rfl (congrArg Value.bool g99) (Op1.pickT (u := .bool _) (congrArg Value.bool (decide_eq_true g100)) rfl ?_)
                                      refine RunL.cons (Op1.pickF (u := .bool _) (congrArg Value.bool g99) rfl ?_)
                                      refine RunL.nil ?_
                                      refine run_cond_split rfl (fun g101 => ?_) (fun g101 => ?_)
                                      · skip
                                        exfalso
                                        rw [hf.c4 (by omega)] at g101; cases g101
                                      · skip
                                        refine run_skip ?_
                                        refine run_inBlock ?_
                                        refine run_region ?_
                                        refine RunL.cons (Op1.move (v := .int .i64 _) rfl ?_)
                                        refine RunL.cons (Op1.addN rfl rfl rfl (wrap_i64 (by omega) (by omega)) ?_)
                                        refine RunL.cons (Op1.assign (v := .int .i64 _) rfl ?_)
                                        refine RunL.nil ?_
                                        refine run_inLoop ?_
                                        replace hst := hst.pick (.cons (.there (.here)) (.cons (.there (.here)) (.cons (.there (.here)) (.cons (.there (.here)) .nil))))
                                        replace hst := hst.toD (L1 := [])
                                        exact ih60 (i + 1) _ w (by omega) hst (by omega) ⟨rfl, rfl, rfl, rfl, rfl, rfl, trivial⟩ ⟨(congrArg (Value.int .i64) (by omega)), trivial⟩
                                    · skip
                                      refine RunL.omit (t := 178) rfl (congrArg Value.bool (decide_eq_false g100)) rfl ?_
                                      refine RunL.omit (t := 178) rfl (congrArg Value.bool (decide_eq_false g100)) rfl ?_
                                      refine RunL.omit (t := 178) rfl (congrArg Value.bool (decide_eq_false g100)) rfl ?_
                                      refine RunL.omit (t := 178) rfl (congrArg Value.bool (decide_eq_false g100)) rfl ?_
                                      refine RunL.omit (t := 178) rfl (congrArg Value.bool (decide_eq_false g100)) rfl ?_
                                      refine RunL.omit (t := 178) rfl (congrArg Value.bool (decide_eq_false g100)) rfl ?_
                                      refine RunL.take (t := 173) rfl (congrArg Value.bool g99) (Op1.pickF (u := .bool _) (congrArg Value.bool (decide_eq_false g100)) rfl ?_)
                                      refine RunL.cons (Op1.pickF (u := .bool _) (congrArg Value.bool g99) rfl ?_)
                                      refine RunL.nil ?_
                                      refine run_cond_false (congrArg Value.bool (rfl : false = _)) ?_
                                      refine run_skip ?_
                                      refine run_inBlock ?_
                                      refine run_region ?_
                                      refine RunL.cons (Op1.move (v := .int .i64 _) rfl ?_)
                                      refine RunL.cons (Op1.addN rfl rfl rfl (wrap_i64 (by omega) (by omega)) ?_)
                                      refine RunL.cons (Op1.assign (v := .int .i64 _) rfl ?_)
                                      refine RunL.nil ?_
                                      refine run_inLoop ?_
                                      replace hst := hst.pick (.cons (.there (.here)) (.cons (.there (.here)) (.cons (.there (.here)) (.cons (.there (.here)) .nil))))
                                      replace hst := hst.toD (L1 := [])
                                      exact ih60 (i + 1) _ w (by omega) hst (by omega) ⟨rfl, rfl, rfl, rfl, rfl, rfl, trivial⟩ ⟨(congrArg (Value.int .i64) (by omega)), trivial⟩
                                · skip
                                  refine RunL.omit (t := 163) rfl (congrArg Value.bool (decide_eq_false g98)) rfl ?_
                                  refine RunL.omit (t := 163) rfl (congrArg Value.bool (decide_eq_false g98)) rfl ?_
                                  refine RunL.omit (t := 163) rfl (congrArg Value.bool (decide_eq_false g98)) rfl ?_
                                  refine RunL.omit (t := 163) rfl (congrArg Value.bool (decide_eq_false g98)) rfl ?_
                                  refine RunL.omit (t := 163) rfl (congrArg Value.bool (decide_eq_false g98)) rfl ?_
                                  refine RunL.omit (t := 163) rfl (congrArg Value.bool (decide_eq_false g98)) rfl ?_
                                  refine RunL.omit (t := 163) rfl (congrArg Value.bool (decide_eq_false g98)) rfl ?_
                                  refine RunL.take (t := 159) rfl (congrArg Value.bool g97) (Op1.pickF (u := .bool _) (congrArg Value.bool (decide_eq_false g98)) rfl ?_)
                                  refine RunL.cons (Op1.pickF (u := .bool _) (congrArg Value.bool g97) rfl ?_)
                                  refine RunL.cons (Op1.move (v := .bool _) rfl ?_)
                                  refine RunL.take (t := 173) rfl (congrArg Value.bool (rfl : false = _)) (Op1.fieldAddr fld56_2 rfl ?_)
                                  refine RunL.take (t := 173) rfl (congrArg Value.bool (rfl : false = _)) (Op1.load1 (v := .int .i64 _) ty3 rfl rfl (hst.cellL (.head _) rfl) ?_)
                                  refine RunL.take (t := 173) rfl (congrArg Value.bool (rfl : false = _)) (Op1.move (v := .int .i64 _) rfl ?_)
                                  refine RunL.take (t := 173) rfl (congrArg Value.bool (rfl : false = _)) (Op1.lss rfl rfl ?_)
                                  refine RunL.take (t := 173) rfl (congrArg Value.bool (rfl : false = _)) (Op1.move (v := .bool _) rfl ?_)
                                  refine RunL.splitD (d := 178) rfl (fun g102 => ?_) (fun g102 => ?_)
                                  · skip
                                    refine RunL.take (t := 178) rfl (congrArg Value.bool (decide_eq_true g102)) (Op1.loadA (vs := [.int .i32 _, .int .i32 _, .int .i32 _, .int .i32 _, .int .i32 _, .int .i32 _, .int .i32 _, .int .i32 _, .int .i32 _]) ty27 rfl rfl rfl (cells_of_obj (n := 9) (hst.objL (.tail _ (.tail _ (.tail _ (.tail _ (.head _)))))) _ rfl) ?_)
                                    refine RunL.take (t := 178) rfl (congrArg Value.bool (decide_eq_true g102)) (Op1.fieldAddr fld56_2 rfl ?_)
                                    refine RunL.take (t := 178) rfl (congrArg Value.bool (decide_eq_true g102)) (Op1.load1 (v := .int .i64 _) ty3 rfl rfl (hst.cellL (.head _) rfl) ?_)
                                    refine RunL.take (t := 178) rfl (congrArg Value.bool (decide_eq_true g102)) (Op1.fieldAddr fld56_0 rfl ?_)
                                    refine RunL.take (t := 178) rfl (congrArg Value.bool (decide_eq_true g102)) (Op1.load1 (v := .int .i64 _) ty3 rfl rfl (hst.cellL (.head _) rfl) ?_)
                                    refine RunL.take (t := 178) rfl (congrArg Value.bool (decide_eq_true g102)) (Op1.call3 (v1 := .agg #[.int .i32 _, .int .i32 _, .int .i32 _, .int .i32 _, .int .i32 _, .int .i32 _, .int .i32 _, .int .i32 _, .int .i32 _]) (v2 := .int .i64 _) (v3 := .int .i64 _) ent34 rfl rfl rfl rfl ((edge_covers _ _ _ _ _ _ _ _ _ _ _ _).mono fun v w hp => ?_))
                                    obtain ⟨rfl, hp⟩ := hp
                                    replace hst := hst.keepc hp
                                    clear hp
                                    refine RunL.take (t := 173) rfl (congrArg Value.bool (rfl : false = _)) (Op1.pickT (u := .bool _) (congrArg Value.bool (decide_eq_true g102)) rfl ?_)
                                    refine RunL.cons (Op1.pickF (u := .bool _) (congrArg Value.bool (rfl : false = _)) rfl ?_)
                                    refine RunL.nil ?_
                                    refine run_cond_split rfl (fun g103 => ?_) (fun g103 => ?_)
                                    · skip
                                      exfalso
                                      rw [hf.c4 (by omega)] at g103; cases g103
                                    · skip
                                      refine run_skip ?_
                                      refine run_inBlock ?_
                                      refine run_region ?_
                                      refine RunL.cons (Op1.move (v := .int .i64 _) rfl ?_)
                                      refine RunL.cons (Op1.addN rfl rfl rfl (wrap_i64 (by omega) (by omega)) ?_)
                                      refine RunL.cons (Op1.assign (v := .int .i64 _) rfl ?_)
                                      refine RunL.nil ?_
                                      refine run_inLoop ?_
                                      replace hst := hst.pick (.cons (.there (.here)) (.cons (.there (.here)) (.cons (.there (.here)) (.cons (.there (.here)) .nil))))
                                      replace hst := hst.toD (L1 := [])
                                      exact ih60 (i + 1) _ w (by omega) hst (by omega) ⟨rfl, rfl, rfl, rfl, rfl, rfl, trivial⟩ ⟨(congrArg (Value.int .i64) (by omega)), trivial⟩
                                  · skip
                                    refine RunL.omit (t := 178) rfl (congrArg Value.bool (decide_eq_false g102)) rfl ?_
                                    refine RunL.omit (t := 178) rfl (congrArg Value.bool (decide_eq_false g102)) rfl ?_
                                    refine RunL.omit (t := 178) rfl (congrArg Value.bool (decide_eq_false g102)) rfl ?_
                                    refine RunL.omit (t := 178) rfl (congrArg Value.bool (decide_eq_false g102)) rfl ?_
                                    refine RunL.omit (t := 178) rfl (congrArg Value.bool (decide_eq_false g102)) rfl ?_
                                    refine RunL.omit (t := 178) rfl (congrArg Value.bool (decide_eq_false g102)) rfl ?_
                                    refine RunL.take (t := 173) rfl (congrArg Value.bool (rfl : false = _)) (Op1.pickF (u := .bool _) (congrArg Value.bool (decide_eq_false g102)) rfl ?_)
                                    refine RunL.cons (Op1.pickF (u := .bool _) (congrArg Value.bool (rfl : false = _)) rfl ?_)
                                    refine RunL.nil ?_
                                    refine run_cond_false (congrArg Value.bool (rfl : false = _)) ?_
                                    refine run_skip ?_
                                    refine run_inBlock ?_
                                    refine run_region ?_
                                    refine RunL.cons (Op1.move (v := .int .i64 _) rfl ?_)
                                    refine RunL.cons (Op1.addN rfl rfl rfl (wrap_i64 (by omega) (by omega)) ?_)
                                    refine RunL.cons (Op1.assign (v := .int .i64 _) rfl ?_)
                                    refine RunL.nil ?_
                                    refine run_inLoop ?_
                                    replace hst := hst.pick (.cons (.there (.here)) (.cons (.there (.here)) (.cons (.there (.here)) (.cons (.there (.here)) .nil))))
                                    replace hst := hst.toD (L1 := [])
                                    exact ih60 (i + 1) _ w (by omega) hst (by omega) ⟨rfl, rfl, rfl, rfl, rfl, rfl, trivial⟩ ⟨(congrArg (Value.int .i64) (by omega)), trivial⟩
            · skip
              refine run_exit (id := 0) rfl ?_
              refine run_seq ?_
              refine run_region ?_
              refine RunL.cons (Op1.call0  ent40 rfl  ((law28_awake _).mono fun v w hp => ?_))
              obtain ⟨rfl, hp⟩ := hp
              replace hst := hst.keepc hp
              clear hp
              refine RunL.cons (Op1.assign (v := .bool _) rfl ?_)
              refine RunL.nil ?_
              refine run_ret1 Try.func14 rfl (RV.tmp (v := .bool _) rfl) ?_
              exact ⟨rfl, hst.pure⟩
    · skip
      refine run_region ?_
      refine RunL.cons (Op1.move (v := .int .i64 _) rfl ?_)
      refine RunL.cons (Op1.geq rfl rfl ?_)
      refine RunL.cons (Op1.move (v := .bool _) rfl ?_)
      refine RunL.splitD (d := 42) rfl (fun g104 => ?_) (fun g104 => ?_)
      · skip
        refine RunL.take (t := 42) rfl (congrArg Value.bool (decide_eq_true g104)) (Op1.move (v := .int .i64 _) rfl ?_)
        refine RunL.take (t := 42) rfl (congrArg Value.bool (decide_eq_true g104)) (Op1.move (v := .int .i64 _) rfl ?_)
        refine RunL.take (t := 42) rfl (congrArg Value.bool (decide_eq_true g104)) (Op1.lss rfl rfl ?_)
        refine RunL.cons (Op1.pickT (u := .bool _) (congrArg Value.bool (decide_eq_true g104)) rfl ?_)
        refine RunL.cons (Op1.move (v := .bool _) rfl ?_)
        refine RunL.splitD (d := 47) rfl (fun g105 => ?_) (fun g105 => ?_)
        · skip
          refine RunL.take (t := 47) rfl (congrArg Value.bool (decide_eq_true g105)) (Op1.move (v := .int .i64 _) rfl ?_)
          refine RunL.take (t := 47) rfl (congrArg Value.bool (decide_eq_true g105)) (Op1.geq rfl rfl ?_)
          refine RunL.cons (Op1.pickT (u := .bool _) (congrArg Value.bool (decide_eq_true g105)) rfl ?_)
          refine RunL.cons (Op1.move (v := .bool _) rfl ?_)
          refine RunL.splitD (d := 51) rfl (fun g106 => ?_) (fun g106 => ?_)
          · skip
            refine RunL.take (t := 51) rfl (congrArg Value.bool (decide_eq_true g106)) (Op1.move (v := .int .i64 _) rfl ?_)
            refine RunL.take (t := 51) rfl (congrArg Value.bool (decide_eq_true g106)) (Op1.move (v := .int .i64 _) rfl ?_)
            refine RunL.take (t := 51) rfl (congrArg Value.bool (decide_eq_true g106)) (Op1.lss rfl rfl ?_)
            refine RunL.cons (Op1.pickT (u := .bool _) (congrArg Value.bool (decide_eq_true g106)) rfl ?_)
            refine RunL.cons (Op1.assign (v := .bool _) rfl ?_)
            refine RunL.nil ?_
            exact cut5 (()) _ w hst (trivial) ⟨rfl, rfl, rfl, rfl, rfl, rfl, rfl, trivial⟩ ⟨(congrArg Value.bool (by first | (rw [decide_eq_decide]; omega) | exact (decide_eq_false (by omega)).symm | exact (decide_eq_true (by omega)).symm)), trivial⟩
          · skip
            refine RunL.omit (t := 51) rfl (congrArg Value.bool (decide_eq_false g106)) rfl ?_
            refine RunL.omit (t := 51) rfl (congrArg Value.bool (decide_eq_false g106)) rfl ?_
            refine RunL.omit (t := 51) rfl (congrArg Value.bool (decide_eq_false g106)) rfl ?_
            refine RunL.cons (Op1.pickF (u := .bool _) (congrArg Value.bool (decide_eq_false g106)) rfl ?_)
            refine RunL.cons (Op1.assign (v := .bool _) rfl ?_)
            refine RunL.nil ?_
            exact cut5 (()) _ w hst (trivial) ⟨rfl, rfl, rfl, rfl, rfl, rfl, rfl, trivial⟩ ⟨(congrArg Value.bool (by first | (rw [decide_eq_decide]; omega) | exact (decide_eq_false (by omega)).symm | exact (decide_eq_true (by omega)).symm)), trivial⟩
        · skip
          refine RunL.omit (t := 47) rfl (congrArg Value.bool (decide_eq_false g105)) rfl ?_
          refine RunL.omit (t := 47) rfl (congrArg Value.bool (decide_eq_false g105)) rfl ?_
          refine RunL.cons (Op1.pickF (u := .bool _) (congrArg Value.bool (decide_eq_false g105)) rfl ?_)
          refine RunL.cons (Op1.move (v := .bool _) rfl ?_)
          refine RunL.omit (t := 51) rfl (congrArg Value.bool (rfl : false = _)) rfl ?_
          refine RunL.omit (t := 51) rfl (congrArg Value.bool (rfl : false = _)) rfl ?_
          refine RunL.omit (t := 51) rfl (congrArg Value.bool (rfl : false = _)) rfl ?_
          refine RunL.cons (Op1.pickF (u := .bool _) (congrArg Value.bool (rfl : false = _)) rfl ?_)
          refine RunL.cons (Op1.assign (v := .bool _) rfl ?_)
          refine RunL.nil ?_
          exact cut5 (()) _ w hst (trivial) ⟨rfl, rfl, rfl, rfl, rfl, rfl, rfl, trivial⟩ ⟨(congrArg Value.bool (by first | (rw [decide_eq_decide]; omega) | exact (decide_eq_false (by omega)).symm | exact (decide_eq_true (by omega)).symm)), trivial⟩
      · skip
        refine RunL.omit (t := 42) rfl (congrArg Value.bool (decide_eq_false g104)) rfl ?_
        refine RunL.omit (t := 42) rfl (congrArg Value.bool (decide_eq_false g104)) rfl ?_
        refine RunL.omit (t := 42) rfl (congrArg Value.bool (decide_eq_false g104)) rfl ?_
        refine RunL.cons (Op1.pickF (u := .bool _) (congrArg Value.bool (decide_eq_false g104)) rfl ?_)
        refine RunL.cons (Op1.move (v := .bool _) rfl ?_)
        refine RunL.omit (t := 47) rfl (congrArg Value.bool (rfl : false = _)) rfl ?_
        refine RunL.omit (t := 47) rfl (congrArg Value.bool (rfl : false = _)) rfl ?_
        refine RunL.cons (Op1.pickF (u := .bool _) (congrArg Value.bool (rfl : false = _)) rfl ?_)
        refine RunL.cons (Op1.move (v := .bool _) rfl ?_)
        refine RunL.omit (t := 51) rfl (congrArg Value.bool (rfl : false = _)) rfl ?_
        refine RunL.omit (t := 51) rfl (congrArg Value.bool (rfl : false = _)) rfl ?_
        refine RunL.omit (t := 51) rfl (congrArg Value.bool (rfl : false = _)) rfl ?_
        refine RunL.cons (Op1.pickF (u := .bool _) (congrArg Value.bool (rfl : false = _)) rfl ?_)
        refine RunL.cons (Op1.assign (v := .bool _) rfl ?_)
        refine RunL.nil ?_
        exact cut5 (()) _ w hst (trivial) ⟨rfl, rfl, rfl, rfl, rfl, rfl, rfl, trivial⟩ ⟨(congrArg Value.bool (by first | (rw [decide_eq_decide]; omega) | exact (decide_eq_false (by omega)).symm | exact (decide_eq_true (by omega)).symm)), trivial⟩

end Go.SK
