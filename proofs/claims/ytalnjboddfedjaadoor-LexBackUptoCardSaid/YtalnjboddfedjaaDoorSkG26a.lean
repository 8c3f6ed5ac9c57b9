/-
  Steps of functions, plain law, and walks of functions: what the laws rest on.
-/
import Derived.Test.YtalnjboddfedjaaDoorSkG0b
import Derived.Test.YtalnjboddfedjaaDoorSkG1a
import Derived.Test.YtalnjboddfedjaaDoorSkG2a
import Derived.Test.YtalnjboddfedjaaDoorSkG3a
import Derived.Test.YtalnjboddfedjaaDoorSkG4a
import Derived.Test.YtalnjboddfedjaaDoorSkG5a
import Derived.Test.YtalnjboddfedjaaDoorSkG6a
import Derived.Test.YtalnjboddfedjaaDoorSkG8a
import Derived.Test.YtalnjboddfedjaaDoorSkG10a
import Derived.Test.YtalnjboddfedjaaDoorSkG11a
import Derived.Test.YtalnjboddfedjaaDoorSkG17a
import Derived.Test.YtalnjboddfedjaaDoorSkG18a
set_option linter.unusedVariables false
set_option linter.unusedSimpArgs false
set_option linter.unusedSectionVars false
namespace Go.SK
theorem runF_all (s : Tx) : (runF s).all runB = true := by
  unfold runF; simp [List.all_takeWhile]
end Go.SK
namespace Go.SK
theorem wr_at {a b : TokL} (hk : a.kind = b.kind) (ht : a.text = b.text) : wrT a = wrT b := by unfold wrT; rw [hk, ht]
theorem retok_wr : ∀ (l : List TokL) (o : List Tx) (k : Nat), wrL l = some o → wrL (retok l o k) = some o
  | [], o, k, h => by cases h; rfl
  | t :: r, o, k, h => by
    rw [wrL] at h
    cases ht : wrT t with
    | none => rw [ht] at h; cases h
    | some x =>
      rw [ht, Option.bind_some] at h
      cases hr : wrL r with
      | none => rw [hr] at h; cases h
      | some xs =>
        rw [hr] at h; cases h
        show wrL (⟨t.kind, t.text, (k : Int)⟩ :: retok r xs _) = _
        rw [wrL, show wrT ⟨t.kind, t.text, (k : Int)⟩ = wrT t from wr_at rfl rfl, ht, Option.bind_some, retok_wr r xs _ hr]; rfl
theorem tok_wr {s t : Tx} {kd at_ : Int} {m : Nat} (h0 : 0 < s.length) (h : tokF s = .ok (kd, t, m)) : ∃ x, wrT ⟨kd, t, at_⟩ = some x := by
  have hs : s.drop 0 = s := rfl
  have h1 : s.drop (0 + 1) = s.drop 1 := rfl
  by_cases hl : letB (s.getD 0 0) = true
  · have e := tok_word (a := 0) hl
    rw [hs, h] at e; cases e
    have hst := run_step (s := s) (i := 0) h0 (run_l hl)
    rw [hs] at hst
    have hg : (runF s).getD 0 0 = s.getD 0 0 := by
      rw [← runF_take s rfl]
      cases s with
      | nil => simp at h0
      | cons c r => rw [show (runF (c :: r)).length = ((runF (c :: r)).length - 1) + 1 by omega, List.take_succ_cons]; rfl
    exact ⟨_, wr1_ok rfl (List.length_pos_iff.1 (by show 0 < (runF s).length; omega)) (by rw [hg]; exact hl) (runF_self (runF_all s))⟩
  by_cases h37 : (s.getD 0 0).toNat = 37
  · have e := tok_id (a := 0) h37
    rw [hs, h, h1] at e; split at e
    · rename_i hp; cases e; exact ⟨_, wr2_ok rfl hp⟩
    · cases e
  by_cases hd : digB (s.getD 0 0) = true ∨ (s.getD 0 0).toNat = 45
  · have e := tok_num (a := 0) hd
    rw [hs, h, h1] at e; split at e
    · rename_i hp; cases e; exact ⟨_, wr3_ok rfl hp⟩
    · cases e
  by_cases h34 : (s.getD 0 0).toNat = 34
  · have e := tok_str (a := 0) h34
    rw [hs, h] at e
    cases hq : quoA s (0 + 1) with
    | none => rw [hq] at e; cases e
    | some q => rw [hq] at e; cases e; exact ⟨_, wr4_ok rfl⟩
  by_cases h61 : (s.getD 0 0).toNat = 61
  · have e := tok_eq (a := 0) h61
    rw [hs, h] at e; cases e; exact ⟨_, wr5_ok rfl rfl⟩
  · have e := tok_bad (a := 0) hl h37 (fun q => hd (.inl q)) (fun q => hd (.inr q)) h34 h61
    rw [hs, h] at e; cases e
theorem toks_wr : ∀ (n : Nat) (s : Tx) (k : Nat), ∃ o, wrL (toksN n s k).1 = some o
  | 0, s, k => ⟨[], rfl⟩
  | n + 1, s, k => by
    rw [toksN]
    split
    · exact ⟨[], rfl⟩
    · rename_i h0
      have h0' : 0 < s.length := by rcases Nat.eq_zero_or_pos s.length with h | h; exact absurd (.inl h) h0; exact h
      split
      · exact toks_wr n _ _
      · cases hp : tokF s with
        | error e => exact ⟨[], rfl⟩
        | ok q =>
          dsimp only
          split
          · obtain ⟨x, hx⟩ := tok_wr (at_ := (k : Int)) (kd := q.1) (t := q.2.1) (m := q.2.2) h0' hp
            obtain ⟨o, ho⟩ := toks_wr n (s.drop q.2.2) (k + q.2.2)
            exact ⟨x :: o, by rw [wrL, hx, Option.bind_some, ho]; rfl⟩
          · exact ⟨[], rfl⟩
end Go.SK
namespace Go.SK
theorem toksF_wsz (s : Tx) : wsz (toksF s).1 ≤ 7 * s.length := (toks_sz _ s 0 (Nat.le_refl _)).1
theorem wsz_retok : ∀ (l : List TokL) (o : List Tx) (k : Nat), wrL l = some o → wsz (retok l o k) = wsz l
  | [], o, k, h => by cases h; rfl
  | t :: r, o, k, h => by
    rw [wrL] at h
    cases ht : wrT t with
    | none => rw [ht] at h; cases h
    | some x =>
      rw [ht, Option.bind_some] at h
      cases hr : wrL r with
      | none => rw [hr] at h; cases h
      | some xs =>
        rw [hr] at h; cases h
        show 4 * t.text.length + 3 + wsz (retok r xs _) = _
        rw [wsz_retok r xs _ hr]; rfl
theorem wrF_retok {l : List TokL} {o : List Tx} (k : Nat) (h : wrL l = some o) : wrF (retok l o k) = some (Lib.join o [32]) := by
  rw [wrF_join, retok_wr l o k h]; rfl
end Go.SK
namespace Go.SK
open Go Go.Proofs
open Go.RowKit
theorem R4law_LexBack (s : Tx) (w : World) (hG : LxG.holds w) (hl : s.length ≤ 137438953471) : Ret Tryd.prog 8 #[str s] w (fun v w' => v = .bool true ∧ St w NoM [] [] w') := by
 refine Ret.enter (args := [str s]) Tryd.func8 rfl rfl rfl ?_
 have hst : St w NoM [] [LxG] w := St.init_Ds (by simp only [List.forall_mem_cons]; exact ⟨hG, fun _ h => absurd h List.not_mem_nil⟩)
 have htl := toksF_len s
 refine SR <| AB rfl <| NSR <| MS rfl <| CN (Op1.call1 (v1 := str _) ent15 rfl rfl ((R4lx_lTokens s _ (hst.hD _ (.head _)) (by omega)).mono fun v w hp => ?_))
 obtain ⟨ao_x1, cp_x1, rfl, hp⟩ := hp
 replace hst := hst.call0 hp
 clear hp
 refine CN <| Op1.move (v := .tuple #[.slice _ _ _, .agg #[.int .i64 _, .int .i64 _]]) rfl <| CN <| Op1.extract (v := .slice _ _ _) rfl rfl <| CN <| Op1.extract (v := .agg #[.int .i64 _, .int .i64 _]) rfl rfl <| CN <| Op1.alloc hst ty25 fun w b4 hst => AL rfl <| CN (SO (v := .agg #[.int .i64 _, .int .i64 _]) hst ty25 rfl rfl (.here) fun w hst => ?_)
 refine NL <| SQ <| SR <| CN <| Op1.fieldAddr fld25_0 rfl <| CN <| Op1.load1 (v := .int .i64 _) ty23 rfl rfl (hst.cellL (.head _) rfl) <| CN <| Op1.neq rfl rfl <| NL <| run_cond_dec rfl (fun g1 => ?_) (fun g1 => ?_)
 · skip
   have hbd := toksF_bad s g1
   have hb0 : (toksF s).1.length = 0 := by rw [hbd.1]; rfl
   have hb1 := hbd.2.1
   have hb2 := hbd.2.2.1
   have hb3 := hbd.2.2.2
   refine SR <| ML rfl <| CN <| Op1.lenSl (rest := []) ty22 rfl <| CN <| Op1.eql rfl rfl <| MB rfl <| RunL.splitD (d := 22) rfl (fun g2 => ?_) (fun g2 => ?_)
   · skip
     refine TK (t := 22) rfl (congrArg Value.bool (decide_eq_true g2)) <| Op1.fieldAddr fld25_1 rfl <| TK (t := 22) rfl (congrArg Value.bool (decide_eq_true g2)) <| Op1.load1 (v := .int .i64 _) ty3 rfl rfl (hst.cellL (.head _) rfl) <| TK (t := 22) rfl (congrArg Value.bool (decide_eq_true g2)) <| Op1.geq rfl rfl <| CN <| Op1.pickT (u := .bool _) (congrArg Value.bool (decide_eq_true g2)) rfl <| MB rfl <| RunL.splitD (d := 27) rfl (fun g3 => ?_) (fun g3 => ?_)
     · skip
       refine TK (t := 27) rfl (congrArg Value.bool (decide_eq_true g3)) <| Op1.fieldAddr fld25_1 rfl <| TK (t := 27) rfl (congrArg Value.bool (decide_eq_true g3)) <| Op1.load1 (v := .int .i64 _) ty3 rfl rfl (hst.cellL (.head _) rfl) <| TK (t := 27) rfl (congrArg Value.bool (decide_eq_true g3)) <| Op1.move (v := str _) rfl <| TK (t := 27) rfl (congrArg Value.bool (decide_eq_true g3)) <| Op1.lenS (rest := []) ty9 rfl <| TK (t := 27) rfl (congrArg Value.bool (decide_eq_true g3)) <| Op1.lss rfl rfl <| CN <| Op1.pickT (u := .bool _) (congrArg Value.bool (decide_eq_true g3)) rfl <| MB rfl <| RunL.splitD (d := 34) rfl (fun g4 => ?_) (fun g4 => ?_)
       · skip
         refine TK (t := 34) rfl (congrArg Value.bool (decide_eq_true g4)) <| Op1.fieldAddr fld25_0 rfl <| TK (t := 34) rfl (congrArg Value.bool (decide_eq_true g4)) <| Op1.load1 (v := .int .i64 _) ty23 rfl rfl (hst.cellL (.head _) rfl) <| TK (t := 34) rfl (congrArg Value.bool (decide_eq_true g4)) <| Op1.eql rfl rfl <| TK (t := 34) rfl (congrArg Value.bool (decide_eq_true g4)) <| Op1.move (v := .bool _) rfl <| RunL.splitD (d := 38) rfl (fun g5 => ?_) (fun g5 => ?_)
         · skip
           refine OM (t := 38) rfl (congrArg Value.bool (decide_eq_true g5)) rfl <| OM (t := 38) rfl (congrArg Value.bool (decide_eq_true g5)) rfl <| OM (t := 38) rfl (congrArg Value.bool (decide_eq_true g5)) rfl <| TK (t := 34) rfl (congrArg Value.bool (decide_eq_true g4)) <| Op1.pickT (u := .bool _) (congrArg Value.bool (decide_eq_true g5)) rfl <| TK (t := 34) rfl (congrArg Value.bool (decide_eq_true g4)) <| Op1.move (v := .bool _) rfl <| OM (t := 43) rfl (congrArg Value.bool (rfl : true = _)) rfl <| OM (t := 43) rfl (congrArg Value.bool (rfl : true = _)) rfl <| OM (t := 43) rfl (congrArg Value.bool (rfl : true = _)) rfl <| TK (t := 34) rfl (congrArg Value.bool (decide_eq_true g4)) <| Op1.pickT (u := .bool _) (congrArg Value.bool (rfl : true = _)) rfl <| CN <| Op1.pickT (u := .bool _) (congrArg Value.bool (decide_eq_true g4)) rfl <| MB rfl <| TK (t := 49) rfl (congrArg Value.bool (rfl : true = _)) (Op1.call0  ent17 rfl  ((R4lx_awake _ (hst.hD _ (.head _))).mono fun v w hp => ?_))
           obtain ⟨rfl, hp⟩ := hp
           replace hst := hst.keepc hp
           clear hp
           refine CN <| Op1.pickT (u := .bool _) (congrArg Value.bool (rfl : true = _)) rfl <| AB rfl <| NL <| run_ret1 Tryd.func8 rfl (TP (v := .bool _) rfl) ?_
           exact ⟨rfl, hst.pure⟩
         refine TK (t := 38) rfl (congrArg Value.bool (decide_eq_false g5)) <| Op1.fieldAddr fld25_0 rfl <| TK (t := 38) rfl (congrArg Value.bool (decide_eq_false g5)) <| Op1.load1 (v := .int .i64 _) ty23 rfl rfl (hst.cellL (.head _) rfl) <| TK (t := 38) rfl (congrArg Value.bool (decide_eq_false g5)) <| Op1.eql rfl rfl <| TK (t := 34) rfl (congrArg Value.bool (decide_eq_true g4)) <| Op1.pickF (u := .bool _) (congrArg Value.bool (decide_eq_false g5)) rfl <| TK (t := 34) rfl (congrArg Value.bool (decide_eq_true g4)) <| Op1.move (v := .bool _) rfl <| RunL.splitD (d := 43) rfl (fun g6 => ?_) (fun g6 => ?_)
         · skip
           refine OM (t := 43) rfl (congrArg Value.bool (decide_eq_true g6)) rfl <| OM (t := 43) rfl (congrArg Value.bool (decide_eq_true g6)) rfl <| OM (t := 43) rfl (congrArg Value.bool (decide_eq_true g6)) rfl <| TK (t := 34) rfl (congrArg Value.bool (decide_eq_true g4)) <| Op1.pickT (u := .bool _) (congrArg Value.bool (decide_eq_true g6)) rfl <| CN <| Op1.pickT (u := .bool _) (congrArg Value.bool (decide_eq_true g4)) rfl <| MB rfl <| TK (t := 49) rfl (congrArg Value.bool (rfl : true = _)) (Op1.call0  ent17 rfl  ((R4lx_awake _ (hst.hD _ (.head _))).mono fun v w hp => ?_))
           obtain ⟨rfl, hp⟩ := hp
           replace hst := hst.keepc hp
           clear hp
           refine CN <| Op1.pickT (u := .bool _) (congrArg Value.bool (rfl : true = _)) rfl <| AB rfl <| NL <| run_ret1 Tryd.func8 rfl (TP (v := .bool _) rfl) ?_
           exact ⟨rfl, hst.pure⟩
         refine TK (t := 43) rfl (congrArg Value.bool (decide_eq_false g6)) <| Op1.fieldAddr fld25_0 rfl <| TK (t := 43) rfl (congrArg Value.bool (decide_eq_false g6)) <| Op1.load1 (v := .int .i64 _) ty23 rfl rfl (hst.cellL (.head _) rfl) <| TK (t := 43) rfl (congrArg Value.bool (decide_eq_false g6)) <| Op1.eql rfl rfl <| TK (t := 34) rfl (congrArg Value.bool (decide_eq_true g4)) <| Op1.pickF (u := .bool _) (congrArg Value.bool (decide_eq_false g6)) rfl <| CN <| Op1.pickT (u := .bool _) (congrArg Value.bool (decide_eq_true g4)) rfl <| MB rfl <| RunL.splitD (d := 49) rfl (fun g7 => ?_) (fun g7 => ?_)
         · skip
           refine TK (t := 49) rfl (congrArg Value.bool (decide_eq_true g7)) (Op1.call0  ent17 rfl  ((R4lx_awake _ (hst.hD _ (.head _))).mono fun v w hp => ?_))
           obtain ⟨rfl, hp⟩ := hp
           replace hst := hst.keepc hp
           clear hp
           refine CN <| Op1.pickT (u := .bool _) (congrArg Value.bool (decide_eq_true g7)) rfl <| AB rfl <| NL <| run_ret1 Tryd.func8 rfl (TP (v := .bool _) rfl) ?_
           exact ⟨rfl, hst.pure⟩
         exfalso
         omega
       exfalso
       omega
     exfalso
     omega
   exfalso
   omega
 obtain ⟨o, ho⟩ := toks_wr s.length s 0
 replace ho : wrL (toksF s).1 = some o := ho
 have hsz := toksF_wsz s
 have hwl := wrF_len (wrF_of ho)
 have hrt := wsz_retok _ _ 0 ho
 have hrl := (retok_len _ _ 0 ho).1
 refine run_skip <| SR <| ML rfl <| CN <| Op1.call1 (v1 := .slice _ _ _) ent23 rfl rfl <| Ret.det (R4lx_WrE (toksF s).1 (Lib.join o [32]) (wrF_of ho) _ rfl _ _ _ (hst.hD _ (.head _)) (Res.rs_of_sl (hst.hL _ (.tail _ (.head _)))) (by omega) (by omega)) hst fun w hst => CN <| Op1.move (v := .tuple #[str _, .int .i64 _]) rfl <| CN <| Op1.extract (v := str _) rfl rfl <| CN <| Op1.extract (v := .int .i64 _) rfl rfl <| AS rfl <| AI rfl <| NSR <| MS rfl <| CN (Op1.call1 (v1 := str _) ent15 rfl rfl ((R4lx_TokE (Lib.join o [32]) (retok (toksF s).1 o 0) 0 0 (forth_toks ho) _ (hst.hD _ (.head _)) (by omega)).mono fun v w hp => ?_))
 obtain ⟨ao_x2, cp_x2, rfl, hp⟩ := hp
 replace hst := hst.call0 hp
 clear hp
 refine CN <| Op1.move (v := .tuple #[.slice _ _ _, .agg #[.int .i64 _, .int .i64 _]]) rfl <| CN <| Op1.extract (v := .slice _ _ _) rfl rfl <| CN <| Op1.extract (v := .agg #[.int .i64 _, .int .i64 _]) rfl rfl <| CN <| Op1.alloc hst ty25 fun w b8 hst => AL rfl <| CN (SO (v := .agg #[.int .i64 _, .int .i64 _]) hst ty25 rfl rfl (.here) fun w hst => ?_)
 refine NL <| Run.forget [(3, .slice _ _ _), (5, str _), (6, .int .i64 _), (7, .slice _ _ _), (8, .pointer (some ⟨_, _, none⟩))] ⟨rfl, rfl, rfl, rfl, rfl, trivial⟩ fun f => SR <| ML rfl <| CN <| Op1.call1 (v1 := .slice _ _ _) ent23 rfl rfl <| Ret.det (R4lx_WrE (retok (toksF s).1 o 0) (Lib.join o [32]) (wrF_retok 0 ho) _ rfl _ _ _ (hst.hD _ (.head _)) (Res.rs_of_sl (hst.hL _ (.tail _ (.head _)))) (by omega) (by omega)) hst fun w hst => CN <| Op1.move (v := .tuple #[str _, .int .i64 _]) rfl <| CN <| Op1.extract (v := str _) rfl rfl <| CN <| Op1.extract (v := .int .i64 _) rfl rfl <| AS rfl <| AI rfl <| NSR <| MI rfl ?_
 refine CN <| Op1.eql rfl rfl <| MB rfl <| RunL.splitD (d := 69) rfl (fun g8 => ?_) (fun g8 => ?_)
 · skip
   refine TK (t := 69) rfl (congrArg Value.bool (decide_eq_true g8)) <| Op1.fieldAddr fld25_0 rfl <| TK (t := 69) rfl (congrArg Value.bool (decide_eq_true g8)) <| Op1.load1 (v := .int .i64 _) ty23 rfl rfl (hst.cellL (.head _) rfl) <| TK (t := 69) rfl (congrArg Value.bool (decide_eq_true g8)) <| Op1.eql rfl rfl <| CN <| Op1.pickT (u := .bool _) (congrArg Value.bool (decide_eq_true g8)) rfl <| MB rfl <| RunL.splitD (d := 74) rfl (fun g9 => ?_) (fun g9 => ?_)
   · skip
     refine TK (t := 74) rfl (congrArg Value.bool (decide_eq_true g9)) <| Op1.move (v := .slice _ _ _) rfl <| TK (t := 74) rfl (congrArg Value.bool (decide_eq_true g9)) <| Op1.move (v := .slice _ _ _) rfl <| TK (t := 74) rfl (congrArg Value.bool (decide_eq_true g9)) (Op1.call2 (v1 := .slice _ _ _) (v2 := .slice _ _ _) ent24 rfl rfl rfl ((R4lx_alike _ _ _ _ _ _ _ (Res.rs_of_sl (hst.hL _ (.tail _ (.head _)))) (Res.rs_of_sl (hst.hL _ (.tail _ (.tail _ (.tail _ (.head _)))))) (by omega)).mono fun v w hp => ?_))
     obtain ⟨rfl, hp⟩ := hp
     replace hst := hst.keepc hp
     clear hp
     refine CN <| Op1.pickT (u := .bool _) (congrArg Value.bool (decide_eq_true g9)) rfl <| MB rfl <| RunL.split (d := 79) rfl (fun g10 => ?_) (fun g10 => ?_)
     · skip
       refine TK (t := 79) rfl (congrArg Value.bool g10) <| Op1.move (v := .int .i64 _) rfl <| TK (t := 79) rfl (congrArg Value.bool g10) <| Op1.eql rfl rfl <| CN <| Op1.pickT (u := .bool _) (congrArg Value.bool g10) rfl <| MB rfl <| RunL.splitD (d := 83) rfl (fun g11 => ?_) (fun g11 => ?_)
       · skip
         refine TK (t := 83) rfl (congrArg Value.bool (decide_eq_true g11)) <| Op1.move (v := str _) rfl <| TK (t := 83) rfl (congrArg Value.bool (decide_eq_true g11)) <| Op1.move (v := str _) rfl <| TK (t := 83) rfl (congrArg Value.bool (decide_eq_true g11)) <| Op1.eqlS rfl rfl <| CN <| Op1.pickT (u := .bool _) (congrArg Value.bool (decide_eq_true g11)) rfl <| MB rfl <| RunL.splitD (d := 88) rfl (fun g12 => ?_) (fun g12 => ?_)
         · skip
           refine TK (t := 88) rfl (congrArg Value.bool (decide_eq_true g12)) (Op1.call0  ent17 rfl  ((R4lx_awake _ (hst.hD _ (.head _))).mono fun v w hp => ?_))
           obtain ⟨rfl, hp⟩ := hp
           replace hst := hst.keepc hp
           clear hp
           refine CN <| Op1.pickT (u := .bool _) (congrArg Value.bool (decide_eq_true g12)) rfl <| AB rfl <| NL <| run_ret1 Tryd.func8 rfl (TP (v := .bool _) rfl) ?_
           exact ⟨rfl, hst.pure⟩
         exfalso
         exact g12 rfl
       exfalso
       exact g11 rfl
     exfalso
     rw [retok_like 0 ho] at g10; cases g10
   exfalso
   exact g9 rfl
 exfalso
 exact g8 rfl
end Go.SK
