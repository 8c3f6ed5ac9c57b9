/-
  Steps of functions, plain law, and walks of functions: what the laws rest on.
-/
import Derived.Test.YtalnjboddfedjaaDoorSkG0b
import Derived.Test.YtalnjboddfedjaaDoorSkG1a
import Derived.Test.YtalnjboddfedjaaDoorSkG2a
import Derived.Test.YtalnjboddfedjaaDoorSkG4a
import Derived.Test.YtalnjboddfedjaaDoorSkG5a
import Derived.Test.YtalnjboddfedjaaDoorSkG6a
import Derived.Test.YtalnjboddfedjaaDoorSkG8a
import Derived.Test.YtalnjboddfedjaaDoorSkG10a
set_option linter.unusedVariables false
set_option linter.unusedSimpArgs false
set_option linter.unusedSectionVars false
namespace Go.SK
theorem wrF_len {l : List TokL} {x : Tx} (h : wrF l = some x) : x.length ≤ wsz l := by
  rw [wrF_join] at h
  cases e : wrL l with
  | none => rw [e] at h; cases h
  | some o =>
    rw [e] at h; cases h
    have : ∀ (l : List TokL) (o : List Tx), wrL l = some o → osz o ≤ wsz l := fun l => by
      induction l with
      | nil => intro o h; cases h; exact Nat.le_refl _
      | cons t r ih =>
        intro o h
        rw [wrL] at h
        cases ht : wrT t with
        | none => rw [ht] at h; cases h
        | some a =>
          rw [ht, Option.bind_some] at h
          cases hr : wrL r with
          | none => rw [hr] at h; cases h
          | some b =>
            rw [hr] at h; cases h
            have h1 := ih b hr; have h2 := wr_len ht
            rw [osz, wsz]; omega
    exact Nat.le_trans (join_len o) (this l o e)
end Go.SK
namespace Go.SK
theorem retok_get : ∀ (l : List TokL) (o : List Tx) (k i : Nat), wrL l = some o → i < l.length → (retok l o k).getD i tok0 = ⟨(l.getD i tok0).kind, (l.getD i tok0).text, ((k + osz (o.take i) : Nat) : Int)⟩ ∧ wrT (l.getD i tok0) = some (o.getD i [])
  | [], o, k, i, _, hi => by simp at hi
  | t :: r, o, k, i, h, hi => by
    rw [wrL] at h
    cases ht : wrT t with
    | none => rw [ht] at h; cases h
    | some x =>
      rw [ht, Option.bind_some] at h
      cases hr : wrL r with
      | none => rw [hr] at h; cases h
      | some xs =>
        rw [hr] at h; cases h
        cases i with
        | zero => exact ⟨rfl, ht⟩
        | succ i =>
          have := retok_get r xs (k + x.length + 1) i hr (by simpa using hi)
          refine ⟨?_, this.2⟩
          show (retok r xs (k + x.length + 1)).getD i tok0 = _
          rw [this.1]
          show (⟨_, _, _⟩ : TokL) = ⟨_, _, _⟩
          congr 1
          rw [List.take_succ_cons, osz]; omega
theorem retok_like {l : List TokL} {o : List Tx} (k : Nat) (h : wrL l = some o) : allLx likeB (retok l o k) l = true :=
  allL_yes (retok_len l o k h).1 fun j hj => by
    rw [(retok_get l o k j h (by rw [← (retok_len l o k h).1]; exact hj)).1]
    exact decide_eq_true ⟨rfl, rfl⟩
end Go.SK
namespace Go.SK
theorem wrF_of {l : List TokL} {o : List Tx} (h : wrL l = some o) : wrF l = some (Lib.join o [32]) := by rw [wrF_join, h]; rfl
end Go.SK
namespace Go.SK
open Go Go.Proofs
open Go.RowKit
theorem R4lx_WrE (l : List TokL) (x : Tx) (h : wrF l = some x) (n : Nat) (hn : n = l.length) (ao : Option Addr) (cp : Nat) (w : World) (hG : LxG.holds w) (hA : (Res.rs ao n 3 (l.flatMap tokC)).holds w) (hl : n ≤ 1099511627776) (hw : wsz l ≤ 1099511627776) : Ret Tryd.prog 23 #[.slice ao n cp] w (fun v w' => v = .tuple #[str x, .int .i64 0] ∧ St w NoM [] [] w') := by
 subst hn
 refine (R4lx_lWrite l ao cp w hG hA hl hw).mono fun v w' ⟨hv, hst⟩ => ⟨?_, hst⟩
 rw [hv, (wrSE_some h).1, (wrSE_some h).2]
end Go.SK
