/-
  Steps of functions, plain law, and walks of functions: what the laws rest on.
-/
import Derived.Test.YtalnjboddfedjaaDoorSkH0b
set_option linter.unusedVariables false
set_option linter.unusedSimpArgs false
set_option linter.unusedSectionVars false
namespace Go.SK
open Go.RowKit Go.ChangeShapes Go.WideShapes Go.ChangeAt
theorem str_sized {H : Type} {P : Program} {ts : List TypeId} {ds : List (DataW H)} (hs : (DataW.weightsEach P ts ds).all (· ≤ reachBytes) = true) {j : Nat} {t : TypeId} {l : List UInt8} (ht : ts[j]? = some t) (hd : ds[j]? = some (.lit (.string l))) : l.length ≤ 140737488355328 := by
  have h1 := sized_string hs ht hd
  have h2 := reachBytes_lt
  omega
end Go.SK
namespace Go.SK
theorem all_get {p : UInt8 → Bool} {s : Tx} {i : Nat} (h : s.all p = true) (hi : i < s.length) : p (s.getD i 0) = true := by
  rw [List.all_eq_true] at h
  have : s.getD i 0 = s[i] := by simp [List.getD, hi]
  rw [this]; exact h _ (List.getElem_mem hi)
end Go.SK
namespace Go.SK
theorem cutA_no10 {r : Tx} {j : Nat} (h : j < (cutA r).length) : ((cutA r).getD j 0).toNat ≠ 10 := by
  have : (cutA r).all (fun c => decide (c.toNat ≠ 10)) = true := by unfold cutA; simp [List.all_takeWhile]
  exact of_decide_eq_true (all_get this h)
theorem lnF_no10 : ∀ (n : Nat) (r : Tx) (i j : Nat), r.length ≤ n → i < (lnF r).length → j < ((lnF r).getD i []).length → (((lnF r).getD i []).getD j 0).toNat ≠ 10
  | 0, r, i, j, h, hi, _ => by rw [lnF_nil (by omega)] at hi; simp at hi
  | n + 1, r, i, j, h, hi, hj => by
    rcases Nat.eq_zero_or_pos r.length with h0 | h0
    · rw [lnF_nil h0] at hi; simp at hi
    · rw [lnF_cons h0] at hi hj ⊢
      cases i with
      | zero => exact cutA_no10 hj
      | succ i => exact lnF_no10 n (cutB r) i j (by have := cutB_len r; omega) (by simpa using hi) hj
def lnJ (l : List Tx) : Tx := l.flatMap fun x => x ++ [10]
theorem lnJ_step {l : List Tx} {i : Nat} (h : i < l.length) : lnJ (l.take (i + 1)) = lnJ (l.take i) ++ l.getD i [] ++ [10] := by
  have : l.take (i + 1) = l.take i ++ [l.getD i []] := by rw [List.take_add_one]; simp [List.getD, h]
  unfold lnJ; rw [this, List.flatMap_append, List.append_assoc]; simp
def endF (t : Tx) : Tx := if t ≠ [] ∧ (t.getD (t.length - 1) 0).toNat ≠ 10 then t ++ [10] else t
theorem cut_split {r : Tx} (h : 0 < r.length) : (r = cutA r ∧ cutB r = [] ∧ ∀ j, j < r.length → (r.getD j 0).toNat ≠ 10) ∨ r = cutA r ++ 10 :: cutB r := by
  rcases idx_cases r with ⟨_, h2⟩ | ⟨k, h1, h2, h3, h4⟩
  · have := cut_all h2; exact .inl ⟨this.1.symm, this.2, h2⟩
  · have := cut_at h1 h3 h4
    refine .inr ?_
    have hd := dropC h1
    have e : r.getD k 0 = 10 := UInt8.toNat_inj.1 h4
    rw [this.1, this.2, ← e, ← hd, List.take_append_drop]
theorem lnJ_all : ∀ (n : Nat) (r : Tx), r.length ≤ n → lnJ (lnF r) = endF r
  | 0, r, h => by
    obtain rfl := List.length_eq_zero_iff.1 (Nat.le_zero.1 h)
    rfl
  | n + 1, r, h => by
    rcases Nat.eq_zero_or_pos r.length with h0 | h0
    · obtain rfl := List.length_eq_zero_iff.1 h0; rfl
    · rw [lnF_cons h0]
      have hb := cutB_len r
      have ih := lnJ_all n (cutB r) (by omega)
      have e1 : lnJ (cutA r :: lnF (cutB r)) = cutA r ++ [10] ++ lnJ (lnF (cutB r)) := by unfold lnJ; rw [List.flatMap_cons]
      rw [e1, ih]
      rcases cut_split h0 with ⟨ha, hbn, hn⟩ | hs
      · rw [hbn, ← ha]
        unfold endF
        rw [if_neg (fun q => q.1 rfl), if_pos ⟨List.length_pos_iff.1 h0, hn _ (by omega)⟩, List.append_nil]
      · have hne : r ≠ [] := List.length_pos_iff.1 h0
        have hlr : r.length = (cutA r).length + ((cutB r).length + 1) := by
          have := congrArg List.length hs
          rw [List.length_append, List.length_cons] at this; exact this
        rcases Nat.eq_zero_or_pos (cutB r).length with hz | hz
        · have hbn := List.length_eq_zero_iff.1 hz
          have hlast : (r.getD (r.length - 1) 0).toNat = 10 := by
            have e : r.drop (r.length - 1) = [10] := by
              conv => lhs; rw [hs]
              rw [hbn, List.length_append, List.length_cons, List.length_nil, show (cutA r).length + (0 + 1) - 1 = (cutA r).length by omega, List.drop_left]
            have := dropC (s := r) (i := r.length - 1) (by omega)
            rw [e] at this
            injection this with e2 _
            rw [← e2]; rfl
          have er : endF r = r := by unfold endF; rw [if_neg (fun q => q.2 hlast)]
          rw [er, hbn, show endF [] = [] from rfl, List.append_nil]
          conv => rhs; rw [hs, hbn]
        · have hbne : cutB r ≠ [] := List.length_pos_iff.1 hz
          have hlast : r.getD (r.length - 1) 0 = (cutB r).getD ((cutB r).length - 1) 0 := by
            have e : cutB r = r.drop ((cutA r).length + 1) := rfl
            rw [e, getD_drop]; congr 1
            rw [List.length_drop]; omega
          unfold endF
          rw [hlast]
          by_cases hq : ((cutB r).getD ((cutB r).length - 1) 0).toNat ≠ 10
          · rw [if_pos ⟨hbne, hq⟩, if_pos ⟨hne, hq⟩]
            conv => rhs; lhs; rw [hs]
            simp
          · rw [if_neg (fun z => hq z.2), if_neg (fun z => hq z.2)]
            conv => rhs; rw [hs]
            simp
theorem lines_join (t : Tx) : lnJ (lnF t) = endF t := lnJ_all _ t (Nat.le_refl _)
theorem lnJ_le (t : Tx) (i : Nat) : (lnJ ((lnF t).take i)).length ≤ t.length + 1 := by
  have h1 : lnJ (lnF t) = lnJ ((lnF t).take i) ++ lnJ ((lnF t).drop i) := by
    unfold lnJ; rw [← List.flatMap_append, List.take_append_drop]
  have h2 := congrArg List.length h1
  rw [lines_join, List.length_append] at h2
  have h3 : (endF t).length ≤ t.length + 1 := by unfold endF; split <;> simp
  omega
end Go.SK
namespace Go.SK
open Go Go.Proofs
open Go.RowKit
theorem R4law_LexJoined (s : Tx) (w : World) (hG : LxG.holds w) (hl : s.length ≤ 140737488355328) : Ret Tryd.prog 13 #[str s] w (fun v w' => v = .bool true ∧ St w NoM [] [] w') := by
 refine Ret.enter (args := [str s]) Tryd.func13 rfl rfl rfl ?_
 have hst : St w NoM [] [LxG] w := St.init_Ds (by simp only [List.forall_mem_cons]; exact ⟨hG, fun _ h => absurd h List.not_mem_nil⟩)
 have hlnl := lines_len s
 refine SR <| CN <| Op1.alloc hst ty4 fun w b2 hst => NSR <| CN <| Op1.alloc hst ty9 fun w b3 hst => CN (SO (v := str _) hst ty9 rfl rfl (.here) fun w hst => ?_)
 refine NSR <| CN <| Op1.alloc hst ty3 fun w b4 hst => CN (SO (v := .int .i64 _) hst ty3 rfl rfl (.here) fun w hst => ?_)
 refine NSR <| MS rfl <| CN (Op1.call1 (v1 := str _) ent29 rfl rfl ((R4lx_lLines s _).mono fun v w hp => ?_))
 obtain ⟨bc, rfl, hp⟩ := hp
 replace hst := hst.call0 hp
 clear hp
 refine CN <| Op1.assign (v := .func _ _ _) rfl <| NL <| SQ <| SR <| CN <| Op1.move (v := .func _ _ _) rfl <| CN <| Op1.eqlFn (fn := _) (a := _) (b := _) ty48 rfl rfl <| NL <| run_cond_false (congrArg Value.bool (rfl : false = _)) <| run_skip <| SQ <| SR <| CN <| Op1.move (v := .func _ _ _) rfl <| NL ?_
 refine run_block ?_
 replace hst := hst.pick (.cons (.there (.there (.here))) (.cons (.there (.here)) (.cons (.here) (.cons (.here) .nil))))
 refine run_rangeIter (L1 := [_, _]) (L2 := [_, _]) (item := (fun j => [.int .i64 ((j : Int) + 1), str ((lnF s).getD j [])])) (FD := (· = bc)) (fun i => [Res.row b3 9 [str (lnJ ((lnF s).take i))], Res.row b4 3 [.int .i64 (i : Int)]]) (fun _ => [Res.prop False]) (fun _ => .exit 4) hst rfl rfl ent46 (fun b hb => .inl (by subst hb; exact ⟨_, (.head _), rfl⟩)) (fun w1 hw1 => R4lx_lines_iter s (by omega) bc w1 (hw1.hL _ (.tail _ (.tail _ (.head _))))) (fun _ _ => rfl) ?_ ?_ ?_
 · intro i hi w bl br lp hlp hst hk
   have hj1 := lnJ_le s i
   have hj2 := lnJ_step (l := lnF s) (i := i) (by omega)
   have hj3 := lnJ_le s (i + 1)
   have hj4 := congrArg List.length hj2
   rw [List.length_append, List.length_append, List.length_singleton] at hj4
   refine SR <| AI rfl <| NR <| AS rfl <| NL <| run_beginR hlp hst (.here) fun w hst => run_block <| SR <| CN <| Op1.load1 (v := .int .i64 _) ty3 rfl rfl (hst.cellL (.tail _ (.tail _ (.tail _ (.head _)))) rfl) <| CN <| Op1.addN rfl rfl rfl (wrap_i64 (by omega) (by omega)) <| CN (SO (v := .int .i64 _) hst ty3 rfl rfl (.there (.there (.there (.here)))) fun w hst => ?_)
   refine NL <| SQ <| SR <| MI rfl <| CN <| Op1.load1 (v := .int .i64 _) ty3 rfl rfl (hst.cellL (.tail _ (.tail _ (.tail _ (.head _)))) rfl) <| CN <| Op1.neq rfl rfl <| NL <| run_cond_dec rfl (fun g1 => ?_) (fun g1 => ?_)
   · skip
     exfalso
     omega
   refine run_skip <| SQ <| SR <| AI rfl <| NL <| run_block <| run_loop <| Run.indW [(2, .pointer (some ⟨_, _, none⟩)), (3, .pointer (some ⟨_, _, none⟩)), (7, str _)] ⟨rfl, rfl, rfl, trivial⟩ (fun (k : Nat) => [(8, .int .i64 (k : Int))]) (fun (k : Nat) => []) (fun (k : Nat) => k ≤ ((lnF s).getD i []).length) (fun (k : Nat) => ((lnF s).getD i []).length - k) (0) hst (Nat.zero_le _) ⟨rfl, trivial⟩ ?_
   intro k f w hst hJ ih2
   have hidx : (((lnF s).getD i []).getD ((k : Int).toNat) 0).toNat = (((lnF s).getD i []).getD k 0).toNat := rfl
   refine SQ <| SR <| MI rfl <| MS rfl <| CN <| Op1.lenS (rest := []) ty9 rfl <| CN <| Op1.lss rfl rfl <| NL <| run_cond_dec rfl (fun g3 => ?_) (fun g3 => ?_)
   · skip
     refine run_skip <| SQ <| run_block <| SR <| MS rfl <| MI rfl <| CN <| Op1.indexS ty9 rfl rfl (by omega) (by omega) <| CN <| Op1.eql rfl rfl <| NL <| run_cond_dec rfl (fun g4 => ?_) (fun g4 => ?_)
     · skip
       exfalso
       exact lnF_no10 s.length s i k (Nat.le_refl _) (by omega) (by omega) (by omega)
     refine run_skip <| run_inBlock <| RG <| MI rfl <| CN <| Op1.addN rfl rfl rfl (wrap_i64 (by omega) (by omega)) <| AI rfl <| NL <| run_inLoop ?_
     exact ih2 (k + 1) _ w ((by omega)) hst ((by omega)) ⟨rfl, rfl, rfl, trivial⟩ ⟨(congrArg (Value.int .i64) (by omega)), trivial⟩
   refine run_exit (id := 2) rfl <| RG <| CN <| Op1.load1 (v := str _) ty9 rfl rfl (hst.cellL (.tail _ (.tail _ (.head _))) rfl) <| MS rfl <| CN <| Op1.addS rfl rfl (by first | omega | (simp only [List.length_cons, List.length_nil, List.length_append]; omega) | (simp; omega)) <| CN <| Op1.addS rfl rfl (by first | omega | (simp only [List.length_cons, List.length_nil, List.length_append]; omega) | (simp; omega)) <| CN (SO (v := str _) hst ty9 rfl rfl (.there (.there (.here))) fun w hst => ?_)
   refine NL <| run_inBlock <| run_endR hlp hst (.here) fun w hst => ?_
   rw [← hj2] at hst
   replace hst := hst.pick (.cons (.here) (.cons (.here) (.cons (.here) (.cons (.here) .nil))))
   exact .inl ⟨rfl, _, hst⟩
 · intro w bl br lp hst
   rw [List.take_length, lines_join] at hst
   refine run_inBlock <| SQ <| SR <| MS rfl <| CN <| Op1.neqS rfl rfl <| MB rfl <| RunL.splitD (d := 37) rfl (fun g5 => ?_) (fun g5 => ?_)
   · skip
     have hsn := g5
     have hsp : 0 < s.length := List.length_pos_iff.2 g5
     have hix2 : (s.getD (((s.length : Nat) : Int) - 1).toNat 0).toNat = (s.getD (s.length - 1) 0).toNat := by rw [show (((s.length : Nat) : Int) - 1).toNat = s.length - 1 by omega]
     refine TK (t := 37) rfl (congrArg Value.bool (decide_eq_true g5)) <| Op1.move (v := str _) rfl <| TK (t := 37) rfl (congrArg Value.bool (decide_eq_true g5)) <| Op1.move (v := str _) rfl <| TK (t := 37) rfl (congrArg Value.bool (decide_eq_true g5)) <| Op1.lenS (rest := []) ty9 rfl <| TK (t := 37) rfl (congrArg Value.bool (decide_eq_true g5)) <| Op1.subN rfl rfl rfl (wrap_i64 (by omega) (by omega)) <| TK (t := 37) rfl (congrArg Value.bool (decide_eq_true g5)) <| Op1.indexS ty9 rfl rfl (by omega) (by omega) <| TK (t := 37) rfl (congrArg Value.bool (decide_eq_true g5)) <| Op1.neq rfl rfl <| CN <| Op1.pickT (u := .bool _) (congrArg Value.bool (decide_eq_true g5)) rfl <| NL <| Run.forget [(0, str _), (2, .pointer (some ⟨_, _, none⟩)), (3, .pointer (some ⟨_, _, none⟩)), (44, .bool _)] ⟨rfl, rfl, rfl, rfl, trivial⟩ fun f => run_cond_dec rfl (fun g6 => ?_) (fun g6 => ?_)
     · skip
       have hef : endF s = s ++ [10] := if_pos ⟨hsn, by omega⟩
       refine RG <| MS rfl <| CN <| Op1.addS rfl rfl (by first | omega | (simp only [List.length_cons, List.length_nil, List.length_append]; omega) | (simp; omega)) <| AS rfl <| NSR <| CN <| Op1.load1 (v := str _) ty9 rfl rfl (hst.cellL (.tail _ (.tail _ (.head _))) rfl) <| MS rfl <| CN <| Op1.eqlS rfl rfl <| MB rfl <| RunL.splitD (d := 50) rfl (fun g7 => ?_) (fun g7 => ?_)
       · skip
         refine TK (t := 50) rfl (congrArg Value.bool (decide_eq_true g7)) (Op1.call0  ent17 rfl  ((R4lx_awake _ (hst.hD _ (.head _))).mono fun v w hp => ?_))
         obtain ⟨rfl, hp⟩ := hp
         replace hst := hst.keepc hp
         clear hp
         refine CN <| Op1.pickT (u := .bool _) (congrArg Value.bool (decide_eq_true g7)) rfl <| CN (SO (v := .bool _) hst ty4 rfl rfl (.there (.there (.there (.there (.there (.here)))))) fun w hst => ?_)
         refine NL ?_
         replace hst := hst.pick (.cons (.there (.here)) (.cons (.here) (.cons (.here) (.cons (.here) (.cons (.here) (.cons (.here) .nil))))))
         refine run_ret_marks [br] Tryd.func13 hst fun w hst => ⟨_, res1 rfl (RV.cell1 (v := .bool _) rfl ty4 rfl (hst.cellL (.tail _ (.tail _ (.tail _ (.tail _ (.head _))))) rfl)), ?_⟩
         exact ⟨rfl, hst.pure⟩
       exfalso
       exact g7 hef
     have hef : endF s = s := if_neg (fun q => q.2 (by omega))
     refine run_skip <| SR <| CN <| Op1.load1 (v := str _) ty9 rfl rfl (hst.cellL (.tail _ (.tail _ (.head _))) rfl) <| MS rfl <| CN <| Op1.eqlS rfl rfl <| MB rfl <| RunL.splitD (d := 50) rfl (fun g8 => ?_) (fun g8 => ?_)
     · skip
       refine TK (t := 50) rfl (congrArg Value.bool (decide_eq_true g8)) (Op1.call0  ent17 rfl  ((R4lx_awake _ (hst.hD _ (.head _))).mono fun v w hp => ?_))
       obtain ⟨rfl, hp⟩ := hp
       replace hst := hst.keepc hp
       clear hp
       refine CN <| Op1.pickT (u := .bool _) (congrArg Value.bool (decide_eq_true g8)) rfl <| CN (SO (v := .bool _) hst ty4 rfl rfl (.there (.there (.there (.there (.there (.here)))))) fun w hst => ?_)
       refine NL ?_
       replace hst := hst.pick (.cons (.there (.here)) (.cons (.here) (.cons (.here) (.cons (.here) (.cons (.here) (.cons (.here) .nil))))))
       refine run_ret_marks [br] Tryd.func13 hst fun w hst => ⟨_, res1 rfl (RV.cell1 (v := .bool _) rfl ty4 rfl (hst.cellL (.tail _ (.tail _ (.tail _ (.tail _ (.head _))))) rfl)), ?_⟩
       exact ⟨rfl, hst.pure⟩
     exfalso
     exact g8 hef
   have hef : endF s = s := if_neg (fun q => g5 q.1)
   refine OM (t := 37) rfl (congrArg Value.bool (decide_eq_false g5)) rfl <| OM (t := 37) rfl (congrArg Value.bool (decide_eq_false g5)) rfl <| OM (t := 37) rfl (congrArg Value.bool (decide_eq_false g5)) rfl <| OM (t := 37) rfl (congrArg Value.bool (decide_eq_false g5)) rfl <| OM (t := 37) rfl (congrArg Value.bool (decide_eq_false g5)) rfl <| OM (t := 37) rfl (congrArg Value.bool (decide_eq_false g5)) rfl <| CN <| Op1.pickF (u := .bool _) (congrArg Value.bool (decide_eq_false g5)) rfl <| NL <| run_cond_false (congrArg Value.bool (rfl : false = _)) <| run_skip <| SR <| CN <| Op1.load1 (v := str _) ty9 rfl rfl (hst.cellL (.tail _ (.tail _ (.head _))) rfl) <| MS rfl <| CN (Op1.eqlS rfl rfl ?_)
   refine MB rfl <| RunL.splitD (d := 50) rfl (fun g9 => ?_) (fun g9 => ?_)
   · skip
     refine TK (t := 50) rfl (congrArg Value.bool (decide_eq_true g9)) (Op1.call0  ent17 rfl  ((R4lx_awake _ (hst.hD _ (.head _))).mono fun v w hp => ?_))
     obtain ⟨rfl, hp⟩ := hp
     replace hst := hst.keepc hp
     clear hp
     refine CN <| Op1.pickT (u := .bool _) (congrArg Value.bool (decide_eq_true g9)) rfl <| CN (SO (v := .bool _) hst ty4 rfl rfl (.there (.there (.there (.there (.there (.here)))))) fun w hst => ?_)
     refine NL ?_
     replace hst := hst.pick (.cons (.there (.here)) (.cons (.here) (.cons (.here) (.cons (.here) (.cons (.here) (.cons (.here) .nil))))))
     refine run_ret_marks [br] Tryd.func13 hst fun w hst => ⟨_, res1 rfl (RV.cell1 (v := .bool _) rfl ty4 rfl (hst.cellL (.tail _ (.tail _ (.tail _ (.tail _ (.head _))))) rfl)), ?_⟩
     exact ⟨rfl, hst.pure⟩
   exfalso
   exact g9 hef
 · intro i hi w bl br lp hst
   exact (hst.hL _ (.tail _ (.tail _ (.head _))) : False).elim
end Go.SK
