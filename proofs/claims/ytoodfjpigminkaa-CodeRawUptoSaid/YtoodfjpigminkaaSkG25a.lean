/-
  Steps of functions, plain law, and walks of functions: what the laws rest on.
-/
import Derived.Test.YtoodfjpigminkaaSkG0d
import Derived.Test.YtoodfjpigminkaaSkG4a
import Derived.Test.YtoodfjpigminkaaSkG12a
set_option linter.unusedVariables false
set_option linter.unusedSimpArgs false
set_option linter.unusedSectionVars false
namespace Go.SK
open Go Go.Proofs
theorem ent29 : Enters Try.prog 29 := ⟨Try.f29, _, Try.func29, by kernel_rfl, rfl⟩
end Go.SK
namespace Go.SK
open Go Go.Proofs
open Go.RowKit
theorem R3wd_SpoilWords2 (l : List Int) (ao : Option Addr) (cp : Nat) (w : World) (hR : (Res.sl ao l.length cp 23 1 (l.flatMap u32C)).holds w) (hl : l.length ≤ 35184372088832) : Ret Try.prog 29 #[.slice ao l.length cp] w (fun v w' => ∃ l' : List Int, l'.length = l.length ∧ St w (Res.sl ao l.length cp 23 1 (l.flatMap u32C)).foot [Res.sl ao l.length cp 23 1 (l'.flatMap u32C)] [] w') := by
 refine Ret.enter (args := [.slice ao l.length cp]) Try.func29 rfl rfl rfl ?_
 have hst : St w (Res.sl ao l.length cp 23 1 (l.flatMap u32C)).foot [Res.sl ao l.length cp 23 1 (l.flatMap u32C)] [] w := St.enter1 hR (fun d hd => by cases hd) (fun d hd => by cases hd)
 refine SR <| AI rfl <| NL <| run_block <| run_loop <| Run.indW [(0, .slice _ _ _)] ⟨rfl, trivial⟩ (fun (q : Nat × List Int) => [(2, .int .i64 (q.1 : Int))]) (fun (q : Nat × List Int) => [Res.sl ao l.length cp 23 1 (q.2.flatMap u32C)]) (fun (q : Nat × List Int) => q.1 ≤ l.length ∧ q.2.length = l.length) (fun (q : Nat × List Int) => l.length - q.1) ((0, l)) hst ⟨Nat.zero_le _, rfl⟩ ⟨rfl, trivial⟩ ?_
 intro ⟨i, m⟩ f w hst hJ ih1
 replace hst : St _ _ ([Res.sl ao l.length cp 23 1 (m.flatMap u32C)] ++ []) _ _ := hst
 replace hJ : i ≤ l.length ∧ m.length = l.length := hJ
 refine Run.slots (sl := [(2, .int .i64 (i : Int))]) ⟨rfl, trivial⟩ <| SQ <| SR <| MI rfl <| ML rfl <| CN <| Op1.lenSl (rest := []) ty43 rfl <| CN <| Op1.lss rfl rfl <| NL <| run_cond_dec rfl (fun g2 => ?_) (fun g2 => ?_)
 · skip
   refine run_skip <| SQ <| run_block <| RG <| ML rfl <| MI rfl ?_
   obtain ⟨bs3, rfl⟩ := Res.sl_some (hst.hL _ (.head _)) (by omega)
   refine CN <| Op1.indexSl ty43 ty23 rfl rfl (by omega) (by omega) <| CN <| Op1.storeSl (v := .int .u32 _) hst ty23 rfl rfl rfl rfl rfl (.here) (by simp only [List.length_cons, List.length_nil]; omega) fun w hst => NL <| run_inBlock <| RG <| MI rfl <| CN <| Op1.addN rfl rfl rfl (wrap_i64 (by omega) (by omega)) <| AI rfl <| NL <| run_inLoop ?_
   exact ih1 ((i + 1, m.set i 1515870810)) _ w (by (try dsimp only); omega) (by (try dsimp only); rw [← setSeg_flat u32C_len 1515870810 m i (by omega)]; simpa using hst) (⟨by (try dsimp only); omega, by (try dsimp only); rw [List.length_set]; exact hJ.2⟩) ⟨rfl, trivial⟩ ⟨(congrArg (Value.int .i64) (by (try dsimp only); omega)), trivial⟩
 refine run_exit (id := 0) rfl <| run_end0 Try.func29 rfl  ?_
 replace hst := hst.pick (.cons (.here) .nil)
 exact ⟨_, hJ.2, hst⟩
end Go.SK
