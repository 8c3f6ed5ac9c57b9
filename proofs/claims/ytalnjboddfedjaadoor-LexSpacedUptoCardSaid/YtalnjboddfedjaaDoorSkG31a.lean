/-
  Steps of functions, plain law, and walks of functions: what the laws rest on.
-/
import Derived.Test.YtalnjboddfedjaaDoorSkG0b
import Derived.Test.YtalnjboddfedjaaDoorSkG1a
import Derived.Test.YtalnjboddfedjaaDoorSkG3a
import Derived.Test.YtalnjboddfedjaaDoorSkG4a
import Derived.Test.YtalnjboddfedjaaDoorSkG6a
import Derived.Test.YtalnjboddfedjaaDoorSkG7a
import Derived.Test.YtalnjboddfedjaaDoorSkG9a
import Derived.Test.YtalnjboddfedjaaDoorSkG10a
import Derived.Test.YtalnjboddfedjaaDoorSkG11a
import Derived.Test.YtalnjboddfedjaaDoorSkG16a
import Derived.Test.YtalnjboddfedjaaDoorSkG18a
import Derived.Test.YtalnjboddfedjaaDoorSkG20a
import Derived.Test.YtalnjboddfedjaaDoorSkG23a
import Derived.Test.YtalnjboddfedjaaDoorSkG24a
set_option linter.unusedVariables false
set_option linter.unusedSimpArgs false
set_option linter.unusedSectionVars false
namespace Go.SK
open Go.RowKit Go.ChangeShapes Go.WideShapes Go.ChangeAt
theorem has_i64 {n : Int} (h : IntKind.i64.has n) : -9223372036854775808 ≤ n ∧ n ≤ 9223372036854775807 := by
  simpa [IntKind.has, IntKind.min, IntKind.max, IntKind.signed, IntKind.bits] using h
end Go.SK
namespace Go.SK
open Go.RowKit
theorem Run.cutW {α : Type} {P : Program} {b : Base} {i : Item} {k : List Item} {E : Frame → World → Prop} {w0 : World} {M : Nat → Prop} {L1 L2 D : List Res} {F : Nat → Value} {w : World} (kv : List (Nat × Value)) (hst : St w0 M (L1 ++ L2) D w) (hkv : Slots F kv) (st : α → List (Nat × Value)) (Lm : α → List Res) (J : α → Prop)
    (h2 : ∀ (a : α) (f : Nat → Value) (w : World), St w0 M (Lm a ++ L2) D w → J a → Run P b k (sts (st a) (sts kv f)) w E)
    (h1 : (∀ (a : α) (f : Nat → Value) (w : World), St w0 M (Lm a ++ L2) D w → J a → Slots f kv → Slots f (st a) → Run P b k f w E) → Run P b (i :: k) F w E) : Run P b (i :: k) F w E :=
  h1 fun a f w hs hJ hk hsl => by
    have := h2 a f w hs hJ
    rw [sts_self hk] at this
    rwa [sts_self hsl] at this
end Go.SK
namespace Go.SK
open Go.RowKit Go.ChangeShapes Go.WideShapes Go.ChangeAt
def wrongF (k : Nat) (x : Int) : Int := if k = 0 then (if x = 50471687 then 21 else if x = 119734787 then 0 else 20) else if k = 1 then (if x = 65536 then 0 else 22) else if k = 3 then (if x = 0 ∨ x > 65536 then 24 else 0) else if k = 4 then (if x = 0 then 0 else 23) else 0
def hd1 (w : List Int) (k : Nat) : Int := if k < w.length then wrongF k (w.getD k 0) else 14
end Go.SK
namespace Go.SK
theorem strC_len (s : Tx) : (strC s).length = 1 := rfl
def txtL (l : List TokL) (i : Nat) : List Tx := (l.take i).map (·.text)
theorem txt_step {l : List TokL} {i : Nat} (h : i < l.length) : txtL l (i + 1) = txtL l i ++ [(l.getD i tok0).text] := by
  unfold txtL
  have : l.take (i + 1) = l.take i ++ [l.getD i tok0] := by rw [List.take_add_one]; simp [List.getD, h]
  rw [this, List.map_append]; rfl
theorem txt_end {l : List TokL} {i : Nat} (h : l.length ≤ i) : txtL l i = l.map (·.text) := by unfold txtL; rw [List.take_of_length_le h]
end Go.SK
namespace Go.SK
open Go Go.Proofs
open Go.RowKit
theorem R4lx_Texts (l l2 : List Tx) (ao ao2 : Option Addr) (cp cp2 : Nat) (w : World) (hA0 : (Res.rs ao l.length 1 (l.flatMap strC)).holds w) (hA1 : (Res.rs ao2 l2.length 1 (l2.flatMap strC)).holds w) (hl : l.length ≤ 1099511627776) : Ret Tryd.prog 25 #[.slice ao l.length cp, .slice ao2 l2.length cp2] w (fun v w' => v = .bool (decide (l = l2)) ∧ St w NoM [] [] w') := by
 refine Ret.enter (args := [.slice ao l.length cp, .slice ao2 l2.length cp2]) Tryd.func25 rfl rfl rfl ?_
 have hst : St w NoM [] [Res.rs ao l.length 1 (l.flatMap strC), Res.rs ao2 l2.length 1 (l2.flatMap strC)] w := St.init_Ds (by simp only [List.forall_mem_cons]; exact ⟨hA0, hA1, fun _ h => absurd h List.not_mem_nil⟩)
 refine SR <| AB rfl <| NL <| SQ <| SR <| ML rfl <| CN <| Op1.lenSl (rest := []) ty41 rfl <| ML rfl <| CN <| Op1.lenSl (rest := []) ty41 rfl <| CN <| Op1.neq rfl rfl <| NL <| run_cond_dec rfl (fun g1 => ?_) (fun g1 => ?_)
 · skip
   refine SR <| AB rfl <| NL <| run_ret1 Tryd.func25 rfl (TP (v := .bool _) rfl) ?_
   rw [decide_eq_false (fun e => g1 (by rw [e]))]
   exact ⟨rfl, hst.pure⟩
 refine run_skip <| SQ <| SR <| AI rfl <| NL <| run_block <| run_loop <| Run.indW [(0, .slice _ _ _), (1, .slice _ _ _)] ⟨rfl, rfl, trivial⟩ (fun (qq : Nat) => [(5, .int .i64 (qq : Int))]) (fun (qq : Nat) => []) (fun (qq : Nat) => qq ≤ l.length ∧ l.length = l2.length ∧ ∀ j, j < qq → l.getD j [] = l2.getD j []) (fun (qq : Nat) => l.length - qq) (0) hst ⟨Nat.zero_le _, by omega, fun j hj => absurd hj (Nat.not_lt_zero _)⟩ ⟨rfl, trivial⟩ ?_
 intro i f w hst hJ ih2
 replace hst : St _ _ ([] ++ []) _ _ := hst
 replace hJ : i ≤ l.length ∧ l.length = l2.length ∧ ∀ j, j < i → l.getD j [] = l2.getD j [] := hJ
 refine Run.slots (sl := [(5, .int .i64 (i : Int))]) ⟨rfl, trivial⟩ ?_
 have hj1 := hJ.1
 have hj2 := hJ.2.1
 refine SQ <| SR <| MI rfl <| ML rfl <| CN <| Op1.lenSl (rest := []) ty41 rfl <| CN <| Op1.lss rfl rfl <| NL <| run_cond_dec rfl (fun g3 => ?_) (fun g3 => ?_)
 · skip
   refine run_skip <| SQ <| run_block <| SQ <| RunD.start [] hst (bs := [0, 0, 3, 7, 0, 0, 48, 112, 255]) (ds := [some 17, some 18, some 19, some 20, some 21, some 22, some 23, some 24, some 25]) ⟨by kernel_rfl, by kernel_rfl, by kernel_rfl⟩ (fun tab4 => ?_)
   refine RunD.op (det _) tab4 1 (fun f' L' w' hc => Op1.move (v := .slice _ _ _) (hc.old (v := .slice _ _ _) rfl rfl rfl) ⟨[], ⟨rfl, rfl⟩, hc.st⟩) <| RunD.op (det _) tab4 2 (fun f' L' w' hc => Op1.move (v := .int .i64 _) (hc.old (v := .int .i64 _) rfl rfl rfl) ⟨[], ⟨rfl, rfl⟩, hc.st⟩) <| RunD.op (det _) tab4 3 (fun f' L' w' hc => Op1.indexRs ty41 ty9 (hc.st.hD _ (.head _)) (hc.det (j := 0) rfl rfl rfl rfl) (hc.det (j := 1) rfl rfl rfl rfl) (by omega) (by omega) ⟨[], ⟨rfl, rfl⟩, hc.st⟩) <| RunD.op (det _) tab4 4 (fun f' L' w' hc => Op1.load1 (v := str _) ty9 rfl (hc.det (j := 2) rfl rfl rfl rfl) (Res.rs2_cell (hc.st.hD _ (.head _)) (flat_cell0 (g := strC) (d := []) strC_len rfl (by omega))) ⟨[], ⟨rfl, rfl⟩, hc.st⟩) <| RunD.op (det _) tab4 5 (fun f' L' w' hc => Op1.move (v := .slice _ _ _) (hc.old (v := .slice _ _ _) rfl rfl rfl) ⟨[], ⟨rfl, rfl⟩, hc.st⟩) <| RunD.op (det _) tab4 6 (fun f' L' w' hc => Op1.move (v := .int .i64 _) (hc.old (v := .int .i64 _) rfl rfl rfl) ⟨[], ⟨rfl, rfl⟩, hc.st⟩) <| RunD.op (det _) tab4 7 (fun f' L' w' hc => Op1.indexRs ty41 ty9 (hc.st.hD _ (.tail _ (.head _))) (hc.det (j := 4) rfl rfl rfl rfl) (hc.det (j := 5) rfl rfl rfl rfl) (by omega) (by omega) ⟨[], ⟨rfl, rfl⟩, hc.st⟩) <| RunD.op (det _) tab4 8 (fun f' L' w' hc => Op1.load1 (v := str _) ty9 rfl (hc.det (j := 6) rfl rfl rfl rfl) (Res.rs2_cell (hc.st.hD _ (.tail _ (.head _))) (flat_cell0 (g := strC) (d := []) strC_len rfl (by omega))) ⟨[], ⟨rfl, rfl⟩, hc.st⟩) <| RunD.fin followsMixed tab4 hst rfl (fun f5 w R8 hs6 hd7 hr9 hst => ?_)
   obtain ⟨h17_, r0⟩ := hd7 0 17 rfl rfl
   obtain ⟨h18_, r1⟩ := hd7 1 18 rfl rfl
   obtain ⟨h19_, r2⟩ := hd7 2 19 rfl rfl
   obtain ⟨h20_, r3⟩ := hd7 3 20 rfl rfl
   obtain ⟨h21_, r4⟩ := hd7 4 21 rfl rfl
   obtain ⟨h22_, r5⟩ := hd7 5 22 rfl rfl
   obtain ⟨h23_, r6⟩ := hd7 6 23 rfl rfl
   obtain ⟨h24_, r7⟩ := hd7 7 24 rfl rfl
   simp only [show List.range 8 = [0, 1, 2, 3, 4, 5, 6, 7] from rfl, List.flatMap_cons, List.flatMap_nil, List.map_cons, List.map_nil, r0, r1, r2, r3, r4, r5, r6, r7, List.nil_append, List.append_nil, List.cons_append] at hst
   refine RunL.slots (sl := [(0, .slice _ _ _), (1, .slice _ _ _), (5, .int .i64 _), (20, str _), (24, str _)]) ⟨(hs6 0 rfl).trans rfl, (hs6 1 rfl).trans rfl, (hs6 5 rfl).trans rfl, h20_, h24_, trivial⟩ ?_
   clear hs6 hd7 hr9 tab4
   refine CN <| Op1.neqS rfl rfl <| NL <| run_cond_dec rfl (fun g10 => ?_) (fun g10 => ?_)
   · skip
     have hne : ¬ l.getD i [] = l2.getD i [] := g10
     refine SR <| AB rfl <| NL <| run_ret1 Tryd.func25 rfl (TP (v := .bool _) rfl) ?_
     rw [decide_eq_false (eq_no hne)]
     exact ⟨rfl, hst.pure⟩
   have heq : l.getD i [] = l2.getD i [] := Classical.not_not.1 g10
   refine run_skip <| run_inBlock <| RG <| MI rfl <| CN <| Op1.addN rfl rfl rfl (wrap_i64 (by omega) (by omega)) <| AI rfl <| NL <| run_inLoop ?_
   exact ih2 (i + 1) _ w ((by omega)) hst (⟨by omega, by omega, lt_succ_all hJ.2.2 heq⟩) ⟨rfl, rfl, trivial⟩ ⟨(congrArg (Value.int .i64) (by omega)), trivial⟩
 refine run_exit (id := 0) rfl <| SR <| AB rfl <| NL <| run_ret1 Tryd.func25 rfl (TP (v := .bool _) rfl) ?_
 rw [decide_eq_true (eq_yes hJ.2.1 (fun j hj => hJ.2.2 j (by omega)))]
 exact ⟨rfl, hst.pure⟩
theorem R4lx_texts (l : List TokL) (ao : Option Addr) (cp : Nat) (w : World) (hA0 : (Res.rs ao l.length 3 (l.flatMap tokC)).holds w) (hl : l.length ≤ 1099511627776) : Ret Tryd.prog 26 #[.slice ao l.length cp] w (fun v w' => ∃ ro rc, v = .slice ro (l.map (·.text)).length rc ∧ St w NoM [Res.sl ro (l.map (·.text)).length rc 9 1 ((l.map (·.text)).flatMap strC)] [] w') := by
 refine Ret.enter (args := [.slice ao l.length cp]) Tryd.func26 rfl rfl rfl ?_
 have hst : St w NoM [] [Res.rs ao l.length 3 (l.flatMap tokC)] w := St.init_D hA0
 refine SR <| AL rfl <| NSR <| AL rfl <| NL <| SQ <| SR <| AI rfl <| NL <| run_block <| run_loop ?_
 replace hst := hst.pushNil 9 1
 refine Run.indW [(0, .slice _ _ _)] ⟨rfl, trivial⟩ (fun (qq : Nat × Option Addr × Nat) => [(3, .slice qq.2.1 qq.1 qq.2.2), (4, .int .i64 (qq.1 : Int))]) (fun (qq : Nat × Option Addr × Nat) => [Res.sl qq.2.1 qq.1 qq.2.2 9 1 ((txtL l qq.1).flatMap strC)]) (fun (qq : Nat × Option Addr × Nat) => qq.1 ≤ l.length) (fun (qq : Nat × Option Addr × Nat) => l.length - qq.1) ((0, none, 0)) hst (Nat.zero_le _) ⟨rfl, rfl, trivial⟩ ?_
 intro ⟨i, aq, cq⟩ f w hst hJ ih1
 replace hst : St _ _ ([Res.sl aq i cq 9 1 ((txtL l i).flatMap strC)] ++ []) _ _ := hst
 replace hJ : i ≤ l.length := hJ
 refine Run.slots (sl := [(3, .slice aq i cq), (4, .int .i64 (i : Int))]) ⟨rfl, rfl, trivial⟩ <| SQ <| SR <| MI rfl <| ML rfl <| CN <| Op1.lenSl (rest := []) ty22 rfl <| CN <| Op1.lss rfl rfl <| NL <| run_cond_dec rfl (fun g2 => ?_) (fun g2 => ?_)
 · skip
   refine run_skip <| SQ <| run_block <| RG <| ML rfl <| ML rfl <| MI rfl <| CN <| Op1.indexRs ty22 ty30 (hst.hD _ (.head _)) rfl rfl (by omega) (by omega) <| CN <| Op1.fieldAddr fld30_1 rfl <| CN <| Op1.load1 (v := str _) ty9 rfl rfl (Res.rs2_cellF (hst.hD _ (.head _)) (flat_cell (g := tokC) (d := tok0) tokC_len rfl (by omega))) <| CN (Op1.buildSl (z0 := [str []]) hst ty41 ty9 rfl rfl (by kernel_rfl) (.c (v := str _) rfl (h := .nil)) fun w b17 hst => ?_)
   refine CN (Op1.append (news := strC (l.getD ((i : Int).toNat) tok0).text) hst ty41 ty9 rfl rfl (.there (.here)) rfl rfl rfl (cells_of_obj (n := 1) (hst.objL (.head _)) _ rfl) rfl rfl (by omega) fun w ao3 cp4 hst => ?_)
   replace hst := hst.drop (.there (.here))
   refine AL rfl <| NL <| run_inBlock <| RG <| MI rfl <| CN <| Op1.addN rfl rfl rfl (wrap_i64 (by omega) (by omega)) <| AI rfl <| NL <| run_inLoop ?_
   have hts := txt_step (l := l) (i := i) (by omega)
   exact ih1 ((i + 1, ao3, cp4)) _ w ((by (try dsimp only); omega)) (by (try dsimp only); rw [hts, List.flatMap_append]; exact hst) ((by (try dsimp only); omega)) ⟨rfl, trivial⟩ ⟨rfl, (congrArg (Value.int .i64) (by (try dsimp only); omega)), trivial⟩
 refine run_exit (id := 0) rfl <| SR <| ML rfl <| AL rfl <| NL <| run_ret1 Tryd.func26 rfl (TP (v := .slice _ _ _) rfl) ?_
 obtain rfl : i = l.length := by omega
 rw [txt_end (Nat.le_refl _)] at hst
 replace hst := hst.pick (.cons (.here) .nil)
 rw [List.length_map]
 exact ⟨aq, cq, rfl, hst.noD⟩
end Go.SK
namespace Go.SK
theorem toks_sp (n : Nat) (z : Tx) (k : Nat) : toksN (n + 1) (32 :: z) k = toksN n z (k + 1) := by
  have h1 : ¬ (((32 : UInt8) :: z).length = 0 ∨ (((32 : UInt8) :: z).getD 0 0).toNat = 59) := fun q => q.elim (fun q => by simp at q) (fun q => absurd (show (32 : UInt8).toNat = 59 from q) (by decide))
  have h2 : blankB (((32 : UInt8) :: z).getD 0 0) = true := (show blankB 32 = true by decide)
  rw [toksN, if_neg h1, if_pos h2]; rfl
def shiftT (b : Nat) (r : List TokL × (Int × Int)) : List TokL × (Int × Int) := (r.1.map fun t => ⟨t.kind, t.text, t.at_ + b⟩, if r.2.1 = 0 then (0, 0) else (r.2.1, r.2.2 + b))
theorem toks_shift (b : Nat) : ∀ (n : Nat) (s : Tx) (k : Nat), toksN n s (k + b) = shiftT b (toksN n s k)
  | 0, s, k => rfl
  | n + 1, s, k => by
    rw [toksN, toksN]
    split
    · rfl
    · split
      · rw [show k + b + 1 = k + 1 + b by omega, toks_shift b n]
      · cases hp : tokF s with
        | error e =>
          have he := tokF_err hp
          dsimp only
          unfold shiftT
          rw [if_neg (by dsimp only; omega)]
          refine Prod.ext rfl (Prod.ext rfl ?_)
          dsimp only; omega
        | ok q =>
          obtain ⟨kd, t, m⟩ := q
          dsimp only
          rw [show k + b + m = k + m + b by omega, toks_shift b n]
          by_cases hz : (toksN n (s.drop m) (k + m)).2.1 = 0
          · have h1 : (shiftT b (toksN n (s.drop m) (k + m))).2.1 = 0 := by unfold shiftT; rw [if_pos hz]
            rw [if_pos hz, if_pos h1]
            unfold shiftT
            refine Prod.ext ?_ rfl
            show _ :: _ = _ :: _
            congr 1
          · have h1 : ¬ (shiftT b (toksN n (s.drop m) (k + m))).2.1 = 0 := by unfold shiftT; rw [if_neg hz]; exact hz
            rw [if_neg hz, if_neg h1]
            unfold shiftT; rw [if_neg hz]; rfl
theorem spaces_ahead (b : Nat) (s : Tx) : toksF (List.replicate b 32 ++ s) = shiftT b (toksF s) := by
  have : ∀ (b n k : Nat), (List.replicate b (32 : UInt8) ++ s).length ≤ n → toksN n (List.replicate b 32 ++ s) k = toksN s.length s (k + b) := fun b => by
    induction b with
    | zero => intro n k h; rw [List.replicate_zero, List.nil_append] at h ⊢; exact toksN_fuel n s.length s k h (Nat.le_refl _)
    | succ b ih =>
      intro n k h
      cases n with
      | zero => simp at h
      | succ n =>
        rw [List.replicate_succ, List.cons_append] at h ⊢
        rw [toks_sp]
        rw [ih n (k + 1) (by simpa using h), show k + 1 + b = k + (b + 1) by omega]
  show toksN _ _ 0 = _
  rw [this b _ 0 (Nat.le_refl _), toks_shift b s.length s 0]; rfl
theorem part_app {s x : Tx} {c : UInt8} {k : Nat} (h : partF s = some (c, k)) : partF (s ++ x) = some (c, k) := by
  cases s with
  | nil => cases h
  | cons a r =>
    have hs : partF ((a :: r).drop 0) = some (c, k) := h
    have e : ∀ j, j < (a :: r).length → ((a :: r) ++ x).getD j 0 = (a :: r).getD j 0 := fun j hj => getD_app hj
    have e0 := e 0 (by simp)
    have hx : partF (((a :: r) ++ x).drop 0) = some (c, k) := by
      rw [part_drop (by simp)] at hs ⊢
      have hlen : ((a :: r) ++ x).length = (a :: r).length + x.length := List.length_append
      unfold partA at hs
      split at hs
      · cases hs
      rename_i h1
      split at hs
      · rename_i h2; cases hs
        unfold partA; rw [e0, if_neg h1, if_pos h2]
      rename_i h2
      split at hs
      · rename_i h3; cases hs
        have e1 := e (0 + 1) (by omega)
        unfold partA; rw [e0, if_neg h1, if_neg h2, e1, if_pos ⟨by omega, h3.2⟩]
      rename_i h3
      split at hs
      · rename_i h4; cases hs
        have e1 := e (0 + 1) (by omega); have e2 := e (0 + 2) (by omega); have e3 := e (0 + 3) (by omega)
        unfold partA; rw [e0, if_neg h1, if_neg h2, e1, e2, e3, if_neg (fun q => h3 ⟨by omega, q.2⟩), if_pos ⟨by omega, h4.2⟩]
      · cases hs
    exact hx
theorem quo_app (x : Tx) : ∀ (n : Nat) (s : Tx) (m : Nat) (r : Tx × Nat), quoN n s = some r → (s ++ x).length ≤ m → quoN m (s ++ x) = some r
  | 0, s, m, r, h, _ => by cases h
  | n + 1, s, m, r, h, hm => by
    rw [quoN] at h
    split at h
    · cases h
    · rename_i h0
      have hlen : (s ++ x).length = s.length + x.length := List.length_append
      have e0 : (s ++ x).getD 0 0 = s.getD 0 0 := getD_app (by omega)
      cases m with
      | zero => omega
      | succ m =>
        split at h
        · rename_i h1; cases h
          rw [quoN, if_neg (by omega), e0, if_pos h1]
        · rename_i h1
          cases hp : partF s with
          | none => rw [hp] at h; cases h
          | some q =>
            obtain ⟨c, k⟩ := q
            rw [hp] at h; dsimp only at h
            have hk := part_pos hp
            rw [quoN, if_neg (by omega), e0, if_neg h1, part_app hp]
            dsimp only
            rw [List.drop_append_of_le_length hk.2]
            cases hq : quoN n (s.drop k) with
            | none => rw [hq] at h; cases h
            | some z =>
              rw [hq] at h; cases h
              rw [quo_app x n (s.drop k) m z hq (by rw [List.length_append, List.length_drop]; omega)]; rfl
theorem tok_app {s t y : Tx} {kd : Int} {m : Nat} (h0 : 0 < s.length) (h : tokF s = .ok (kd, t, m)) (hy : y.length = 0 ∨ (y.getD 0 0).toNat = 32) : tokF (s ++ y) = .ok (kd, t, m) := by
  have hyr : y.length = 0 ∨ ¬ runB (y.getD 0 0) = true := hy.imp id fun h32 => by
    unfold runB letB digB; rw [Bool.or_eq_true, decide_eq_true_eq, decide_eq_true_eq]; omega
  have hs : s.drop 0 = s := rfl
  have h1 : s.drop (0 + 1) = s.drop 1 := rfl
  have hz : (s ++ y).drop 0 = s ++ y := rfl
  have e0 : (s ++ y).getD 0 0 = s.getD 0 0 := getD_app h0
  have e1 : (s ++ y).drop (0 + 1) = s.drop 1 ++ y := List.drop_append_of_le_length h0
  by_cases hl : letB (s.getD 0 0) = true
  · have e := tok_word (a := 0) hl
    have e2 := tok_word (s := s ++ y) (a := 0) (by rw [e0]; exact hl)
    rw [hs, h] at e; rw [hz, runF_app hyr] at e2; rw [e2, e]
  by_cases h37 : (s.getD 0 0).toNat = 37
  · have e := tok_id (a := 0) h37
    have e2 := tok_id (s := s ++ y) (a := 0) (by rw [e0]; exact h37)
    rw [hs, h, h1] at e; rw [hz, e1, runF_app hyr] at e2; rw [e2, e]
  by_cases hd : digB (s.getD 0 0) = true ∨ (s.getD 0 0).toNat = 45
  · have e := tok_num (a := 0) hd
    have e2 := tok_num (s := s ++ y) (a := 0) (by rw [e0]; exact hd)
    have hr := runF_le (s.drop 1)
    rw [List.length_drop] at hr
    rw [hs, h, h1] at e; rw [hz, e1, runF_app hyr, List.take_append_of_le_length (by omega)] at e2; rw [e2, e]
  by_cases h34 : (s.getD 0 0).toNat = 34
  · have e := tok_str (a := 0) h34
    have e2 := tok_str (s := s ++ y) (a := 0) (by rw [e0]; exact h34)
    rw [hs, h] at e
    rw [hz] at e2; rw [e2]
    cases hq : quoA s (0 + 1) with
    | none => rw [hq] at e; cases e
    | some q =>
      rw [hq] at e
      have : quoA (s ++ y) (0 + 1) = some q := by
        unfold quoA at hq ⊢
        rw [e1]; rw [h1] at hq
        exact quo_app y _ _ _ _ hq (by rw [List.length_append, List.length_append, List.length_drop]; omega)
      rw [this, e]
  by_cases h61 : (s.getD 0 0).toNat = 61
  · have e := tok_eq (a := 0) h61
    have e2 := tok_eq (s := s ++ y) (a := 0) (by rw [e0]; exact h61)
    rw [hs, h] at e; rw [hz] at e2; rw [e2, e]
  · have e := tok_bad (a := 0) hl h37 (fun q => hd (.inl q)) (fun q => hd (.inr q)) h34 h61
    rw [hs, h] at e; cases e
theorem note_end (x : Tx) (n k : Nat) : toksN n (32 :: 59 :: x) k = ([], (0, 0)) := by
  cases n with
  | zero => rfl
  | succ n =>
    rw [toks_sp]
    cases n with
    | zero => rfl
    | succ n => rw [toksN, if_pos (.inr rfl)]
theorem toks_note (x : Tx) : ∀ (n : Nat) (s : Tx) (k m : Nat), s.length ≤ n → (s ++ 32 :: 59 :: x).length ≤ m → (toksN n s k).2.1 = 0 → toksN m (s ++ 32 :: 59 :: x) k = toksN n s k
  | 0, s, k, m, hn, hm, h => by
    obtain rfl := List.length_eq_zero_iff.1 (Nat.le_zero.1 hn)
    exact note_end x m k
  | n + 1, s, k, m, hn, hm, h => by
    have hlen : (s ++ 32 :: 59 :: x).length = s.length + (x.length + 2) := by simp
    rcases Nat.eq_zero_or_pos s.length with h0 | h0
    · obtain rfl := List.length_eq_zero_iff.1 h0
      rw [List.nil_append, note_end, toksN, if_pos (.inl rfl)]
    · cases m with
      | zero => omega
      | succ m =>
        have e0 : (s ++ 32 :: 59 :: x).getD 0 0 = s.getD 0 0 := getD_app h0
        rw [toksN] at h ⊢
        conv => rhs; rw [toksN]
        by_cases h59 : (s.getD 0 0).toNat = 59
        · rw [if_pos (.inr (by rw [e0]; exact h59)), if_pos (.inr h59)]
        · have h59' : ¬ (s.length = 0 ∨ (s.getD 0 0).toNat = 59) := by omega
          rw [if_neg h59'] at h
          rw [if_neg (by rw [e0]; omega), if_neg h59', e0]
          by_cases hb : blankB (s.getD 0 0) = true
          · rw [if_pos hb] at h
            rw [if_pos hb, if_pos hb, List.drop_append_of_le_length h0]
            exact toks_note x n (s.drop 1) (k + 1) m (by rw [List.length_drop]; omega) (by rw [List.length_append, List.length_drop]; rw [List.length_append] at hm; omega) h
          · rw [if_neg hb] at h
            rw [if_neg hb, if_neg hb]
            cases hp : tokF s with
            | error e => rw [hp] at h; have := tokF_err hp; dsimp only at h; omega
            | ok q =>
              obtain ⟨kd, t, mm⟩ := q
              rw [hp] at h
              rw [tok_app h0 hp (.inr rfl)]
              dsimp only at h ⊢
              have hmm := tokF_len h0 hp
              have hz : (toksN n (s.drop mm) (k + mm)).2.1 = 0 := by
                by_cases hz : (toksN n (s.drop mm) (k + mm)).2.1 = 0
                · exact hz
                · rw [if_neg hz] at h; exact h
              rw [List.drop_append_of_le_length hmm.2.1, toks_note x n (s.drop mm) (k + mm) m (by rw [List.length_drop]; omega) (by rw [List.length_append, List.length_drop]; rw [List.length_append] at hm; omega) hz]
theorem note_behind {s : Tx} (x : Tx) (h : (toksF s).2.1 = 0) : toksF (s ++ [32, 59] ++ x) = toksF s := by
  have : s ++ [32, 59] ++ x = s ++ 32 :: 59 :: x := by simp
  rw [this]
  exact toks_note x _ s 0 _ (Nat.le_refl _) (Nat.le_refl _) h
theorem shift_like (b : Nat) (l : List TokL) : allLx likeB (l.map fun t => (⟨t.kind, t.text, t.at_ + b⟩ : TokL)) l = true := by
  refine allL_yes (List.length_map _) fun j hj => ?_
  rw [List.length_map] at hj
  exact decide_eq_true (by simp [List.getD, hj])
theorem shift_get {b : Nat} {l : List TokL} {j : Nat} (h : j < l.length) : ((l.map fun t => (⟨t.kind, t.text, t.at_ + b⟩ : TokL)).getD j tok0).at_ = (l.getD j tok0).at_ + b := by
  simp [List.getD, h]
theorem shift_txt (b : Nat) (l : List TokL) : (l.map fun t => (⟨t.kind, t.text, t.at_ + b⟩ : TokL)).map (·.text) = l.map (·.text) := by
  rw [List.map_map]; rfl
end Go.SK
namespace Go.SK
theorem toksF_zero {s : Tx} (h : (toksF s).2.1 = 0) : toksF s = ((toksF s).1, (0, 0)) := Prod.ext rfl (toksN_zero _ _ _ h)
theorem toks_ats : ∀ (n : Nat) (s : Tx) (k : Nat), s.length ≤ n → ∀ t ∈ (toksN n s k).1, (k : Int) ≤ t.at_ ∧ t.at_ < k + s.length
  | 0, s, k, _, t, ht => absurd ht List.not_mem_nil
  | n + 1, s, k, hn, t, ht => by
    rw [toksN] at ht
    split at ht
    · exact absurd ht List.not_mem_nil
    · rename_i h0
      have h0' : 0 < s.length := by rcases Nat.eq_zero_or_pos s.length with h | h; exact absurd (.inl h) h0; exact h
      split at ht
      · have := toks_ats n (s.drop 1) (k + 1) (by rw [List.length_drop]; omega) t ht
        rw [List.length_drop] at this; omega
      · cases hp : tokF s with
        | error e => rw [hp] at ht; exact absurd ht List.not_mem_nil
        | ok q =>
          obtain ⟨kd, tx, m⟩ := q
          rw [hp] at ht; dsimp only at ht
          have hm := tokF_len h0' hp
          split at ht
          · rcases List.mem_cons.1 ht with rfl | ht
            · exact ⟨Int.le_refl _, by dsimp only; omega⟩
            · have := toks_ats n (s.drop m) (k + m) (by rw [List.length_drop]; omega) t ht
              rw [List.length_drop] at this; omega
          · exact absurd ht List.not_mem_nil
theorem toksF_at {s : Tx} {j : Nat} (h : j < (toksF s).1.length) : 0 ≤ ((toksF s).1.getD j tok0).at_ ∧ ((toksF s).1.getD j tok0).at_ < s.length := by
  have e : (toksF s).1.getD j tok0 = (toksF s).1[j] := by simp [List.getD, h]
  have := toks_ats _ s 0 (Nat.le_refl _) _ (List.getElem_mem h)
  rw [e]
  exact ⟨this.1, by have h2 := this.2; rw [show ((0 : Nat) : Int) + (s.length : Int) = s.length by omega] at h2; exact h2⟩
def shL (b : Nat) (s : Tx) : List TokL := (toksF s).1.map fun t => ⟨t.kind, t.text, t.at_ + b⟩
theorem shL_len (b : Nat) (s : Tx) : (shL b s).length = (toksF s).1.length := List.length_map _
theorem shL_toks (b : Nat) (s : Tx) : toksF (List.replicate b 32 ++ s) = (shL b s, ((toksF s).2.1, if (toksF s).2.1 = 0 then 0 else (toksF s).2.2 + b)) := by
  rw [spaces_ahead]; unfold shiftT
  by_cases h : (toksF s).2.1 = 0
  · rw [if_pos h, if_pos h, h]; rfl
  · rw [if_neg h, if_neg h]; rfl
end Go.SK
namespace Go.SK
open Go Go.Proofs
theorem ent26 : Enters Tryd.prog 26 := ⟨Tryd.f26, _, Tryd.func26, by kernel_rfl, rfl⟩
theorem ent25 : Enters Tryd.prog 25 := ⟨Tryd.f25, _, Tryd.func25, by kernel_rfl, rfl⟩
end Go.SK
namespace Go.SK
open Go Go.Proofs
open Go.RowKit
theorem R4law_LexSpaced (s z : Tx) (x : Int) (hx : -9223372036854775808 ≤ x ∧ x ≤ 9223372036854775807) (w : World) (hG : LxG.holds w) (hl : s.length ≤ 137438953471) (hz : z.length ≤ 137438953471) : Ret Tryd.prog 7 #[str s, str z, .int .i64 x] w (fun v w' => v = .bool true ∧ St w NoM [] [] w') := by
 refine Ret.enter (args := [str s, str z, .int .i64 x]) Tryd.func7 rfl rfl rfl ?_
 have hst : St w NoM [] [LxG] w := St.init_Ds (by simp only [List.forall_mem_cons]; exact ⟨hG, fun _ h => absurd h List.not_mem_nil⟩)
 have htl := toksF_len s
 refine SR <| AB rfl <| NL <| SQ <| Run.cutW (L1 := []) [(0, str _), (1, str _)] hst ⟨rfl, rfl, trivial⟩ (fun (qq : Nat) => [(2, .int .i64 (qq : Int))]) (fun (qq : Nat) => []) (fun (qq : Nat) => qq ≤ 40) (fun b f w hst hb40 => ?_) (fun cut1 => ?_)
 replace hst : St _ _ ([] ++ []) _ _ := hst
 replace hb40 : b ≤ 40 := hb40
 refine Run.slots (sl := [(2, .int .i64 (b : Int))]) ⟨rfl, trivial⟩ ?_
 · skip
   refine SR <| AS rfl <| NL <| SQ <| SR <| AI rfl <| NL <| run_block <| run_loop <| Run.indW [(0, str _), (1, str _), (2, .int .i64 _)] ⟨rfl, rfl, rfl, trivial⟩ (fun (qq : Nat) => [(7, str (List.replicate qq 32)), (8, .int .i64 (qq : Int))]) (fun (qq : Nat) => []) (fun (qq : Nat) => qq ≤ b) (fun (qq : Nat) => b - qq) (0) hst (Nat.zero_le _) ⟨rfl, rfl, trivial⟩ ?_
   intro i f w hst hJ ih3
   replace hst : St _ _ ([] ++ []) _ _ := hst
   replace hJ : i ≤ b := hJ
   refine Run.slots (sl := [(7, str (List.replicate i 32)), (8, .int .i64 (i : Int))]) ⟨rfl, rfl, trivial⟩ ?_
   have hrl : (List.replicate i (32 : UInt8)).length = i := List.length_replicate
   refine SQ <| SR <| MI rfl <| MI rfl <| CN <| Op1.lss rfl rfl <| NL <| run_cond_dec rfl (fun g4 => ?_) (fun g4 => ?_)
   · skip
     refine run_skip <| SQ <| run_block <| RG <| MS rfl <| CN <| Op1.addS rfl rfl (by first | omega | (simp only [List.length_cons, List.length_nil, List.length_append]; omega) | (simp; omega)) <| AS rfl <| NL <| run_inBlock <| RG <| MI rfl <| CN <| Op1.addN rfl rfl rfl (wrap_i64 (by omega) (by omega)) <| AI rfl <| NL <| run_inLoop ?_
     exact ih3 (i + 1) _ w ((by omega)) hst ((by omega)) ⟨rfl, rfl, rfl, trivial⟩ ⟨(str_inj (by rw [List.replicate_succ'])), (congrArg (Value.int .i64) (by omega)), trivial⟩
   obtain rfl : b = i := by omega
   refine run_exit (id := 0) rfl <| SR <| MS rfl <| CN (Op1.call1 (v1 := str _) ent15 rfl rfl ((R4lx_lTokens s _ (hst.hD _ (.head _)) (by omega)).mono fun v w hp => ?_))
   obtain ⟨ao_x1, cp_x1, rfl, hp⟩ := hp
   replace hst := hst.call0 hp
   clear hp
   refine CN <| Op1.move (v := .tuple #[.slice _ _ _, .agg #[.int .i64 _, .int .i64 _]]) rfl <| CN <| Op1.extract (v := .slice _ _ _) rfl rfl <| CN <| Op1.extract (v := .agg #[.int .i64 _, .int .i64 _]) rfl rfl <| CN <| Op1.alloc hst ty25 fun w b10 hst => AL rfl <| CN (SO (v := .agg #[.int .i64 _, .int .i64 _]) hst ty25 rfl rfl (.here) fun w hst => ?_)
   refine NSR <| MS rfl <| MS rfl <| CN <| Op1.addS rfl rfl (by first | omega | (simp only [List.length_cons, List.length_nil, List.length_append]; omega) | (simp; omega)) <| CN (Op1.call1 (v1 := str _) ent15 rfl rfl ((R4lx_TokE (List.replicate b 32 ++ s) (shL b s) (toksF s).2.1 (if (toksF s).2.1 = 0 then 0 else (toksF s).2.2 + b) (shL_toks b s) _ (hst.hD _ (.head _)) (by simp only [List.length_append, List.length_replicate]; omega)).mono fun v w hp => ?_))
   obtain ⟨ao_x2, cp_x2, rfl, hp⟩ := hp
   replace hst := hst.call0 hp
   clear hp
   have hsl := shL_len b s
   refine CN <| Op1.move (v := .tuple #[.slice _ _ _, .agg #[.int .i64 _, .int .i64 _]]) rfl <| CN <| Op1.extract (v := .slice _ _ _) rfl rfl <| CN <| Op1.extract (v := .agg #[.int .i64 _, .int .i64 _]) rfl rfl <| CN <| Op1.alloc hst ty25 fun w b12 hst => AL rfl <| CN (SO (v := .agg #[.int .i64 _, .int .i64 _]) hst ty25 rfl rfl (.here) fun w hst => ?_)
   refine NL <| Run.forget [(0, str _), (1, str _), (2, .int .i64 _), (9, .slice _ _ _), (10, .pointer (some ⟨_, _, none⟩)), (11, .slice _ _ _), (12, .pointer (some ⟨_, _, none⟩))] ⟨rfl, rfl, rfl, rfl, rfl, rfl, rfl, trivial⟩ fun f => SQ <| SR <| CN <| Op1.fieldAddr fld25_0 rfl <| CN <| Op1.load1 (v := .int .i64 _) ty23 rfl rfl (hst.cellL (.tail _ (.tail _ (.head _))) rfl) <| CN <| Op1.neq rfl rfl <| NL <| run_cond_dec rfl (fun g5 => ?_) (fun g5 => ?_)
   · skip
     have hbd := toksF_bad s g5
     have hb1 := hbd.2.1
     have hb2 := hbd.2.2.1
     have hb0 : (toksF s).1.length = 0 := by rw [hbd.1]; rfl
     have hif : (if (toksF s).2.1 = 0 then (0 : Int) else (toksF s).2.2 + b) = (toksF s).2.2 + b := if_neg g5
     refine SR <| CN <| Op1.fieldAddr fld25_0 rfl <| CN <| Op1.load1 (v := .int .i64 _) ty23 rfl rfl (hst.cellL (.head _) rfl) <| CN <| Op1.fieldAddr fld25_0 rfl <| CN <| Op1.load1 (v := .int .i64 _) ty23 rfl rfl (hst.cellL (.tail _ (.tail _ (.head _))) rfl) <| CN <| Op1.eql rfl rfl <| MB rfl <| RunL.splitD (d := 49) rfl (fun g6 => ?_) (fun g6 => ?_)
     · skip
       refine TK (t := 49) rfl (congrArg Value.bool (decide_eq_true g6)) <| Op1.fieldAddr fld25_1 rfl <| TK (t := 49) rfl (congrArg Value.bool (decide_eq_true g6)) <| Op1.load1 (v := .int .i64 _) ty3 rfl rfl (hst.cellL (.head _) rfl) <| TK (t := 49) rfl (congrArg Value.bool (decide_eq_true g6)) <| Op1.fieldAddr fld25_1 rfl <| TK (t := 49) rfl (congrArg Value.bool (decide_eq_true g6)) <| Op1.load1 (v := .int .i64 _) ty3 rfl rfl (hst.cellL (.tail _ (.tail _ (.head _))) rfl) <| TK (t := 49) rfl (congrArg Value.bool (decide_eq_true g6)) <| Op1.move (v := .int .i64 _) rfl <| TK (t := 49) rfl (congrArg Value.bool (decide_eq_true g6)) <| Op1.addN rfl rfl rfl (wrap_i64 (by omega) (by omega)) <| TK (t := 49) rfl (congrArg Value.bool (decide_eq_true g6)) <| Op1.eql rfl rfl <| CN <| Op1.pickT (u := .bool _) (congrArg Value.bool (decide_eq_true g6)) rfl <| MB rfl <| RunL.splitD (d := 58) rfl (fun g7 => ?_) (fun g7 => ?_)
       · skip
         refine TK (t := 58) rfl (congrArg Value.bool (decide_eq_true g7)) <| Op1.move (v := .slice _ _ _) rfl <| TK (t := 58) rfl (congrArg Value.bool (decide_eq_true g7)) <| Op1.lenSl (rest := []) ty22 rfl <| TK (t := 58) rfl (congrArg Value.bool (decide_eq_true g7)) <| Op1.eql rfl rfl <| CN <| Op1.pickT (u := .bool _) (congrArg Value.bool (decide_eq_true g7)) rfl <| MB rfl <| RunL.splitD (d := 63) rfl (fun g8 => ?_) (fun g8 => ?_)
         · skip
           refine TK (t := 63) rfl (congrArg Value.bool (decide_eq_true g8)) <| Op1.move (v := .slice _ _ _) rfl <| TK (t := 63) rfl (congrArg Value.bool (decide_eq_true g8)) <| Op1.lenSl (rest := []) ty22 rfl <| TK (t := 63) rfl (congrArg Value.bool (decide_eq_true g8)) <| Op1.eql rfl rfl <| CN <| Op1.pickT (u := .bool _) (congrArg Value.bool (decide_eq_true g8)) rfl <| MB rfl <| RunL.splitD (d := 68) rfl (fun g9 => ?_) (fun g9 => ?_)
           · skip
             refine TK (t := 68) rfl (congrArg Value.bool (decide_eq_true g9)) (Op1.call0  ent17 rfl  ((R4lx_awake _ (hst.hD _ (.head _))).mono fun v w hp => ?_))
             obtain ⟨rfl, hp⟩ := hp
             replace hst := hst.keepc hp
             clear hp
             refine CN <| Op1.pickT (u := .bool _) (congrArg Value.bool (decide_eq_true g9)) rfl <| AB rfl <| NL <| run_ret1 Tryd.func7 rfl (TP (v := .bool _) rfl) ?_
             exact ⟨rfl, hst.pure⟩
           exfalso
           omega
         exfalso
         omega
       exfalso
       omega
     exfalso
     exact g6 rfl
   have he0 : (toksF s).2.1 = 0 := by omega
   refine run_skip <| SQ <| SR <| CN <| Op1.fieldAddr fld25_0 rfl <| CN <| Op1.load1 (v := .int .i64 _) ty23 rfl rfl (hst.cellL (.head _) rfl) <| CN <| Op1.neq rfl rfl <| MB rfl <| RunL.splitD (d := 74) rfl (fun g10 => ?_) (fun g10 => ?_)
   · skip
     exfalso
     omega
   refine TK (t := 74) rfl (congrArg Value.bool (decide_eq_false g10)) <| Op1.move (v := .slice _ _ _) rfl <| TK (t := 74) rfl (congrArg Value.bool (decide_eq_false g10)) <| Op1.move (v := .slice _ _ _) rfl <| TK (t := 74) rfl (congrArg Value.bool (decide_eq_false g10)) (Op1.call2 (v1 := .slice _ _ _) (v2 := .slice _ _ _) ent24 rfl rfl rfl ((R4lx_alike _ _ _ _ _ _ _ (Res.rs_of_sl (hst.hL _ (.tail _ (.head _)))) (Res.rs_of_sl (hst.hL _ (.tail _ (.tail _ (.tail _ (.head _)))))) (by omega)).mono fun v w hp => ?_))
   obtain ⟨rfl, hp⟩ := hp
   replace hst := hst.keepc hp
   clear hp
   refine TK (t := 74) rfl (congrArg Value.bool (decide_eq_false g10)) <| Op1.not rfl <| CN <| Op1.pickF (u := .bool _) (congrArg Value.bool (decide_eq_false g10)) rfl <| MB rfl <| RunL.split (d := 80) rfl (fun g11 => ?_) (fun g11 => ?_)
   · skip
     exfalso
     rw [show allLx likeB (shL b s) (toksF s).1 = true from shift_like b _] at g11; cases g11
   refine TK (t := 80) rfl (congrArg Value.bool g11) <| Op1.move (v := .slice _ _ _) rfl <| TK (t := 80) rfl (congrArg Value.bool g11) (Op1.call1 (v1 := .slice _ _ _) ent26 rfl rfl ((R4lx_texts _ _ _ _ (Res.rs_of_sl (hst.hL _ (.tail _ (.head _)))) (by omega)).mono fun v w hp => ?_))
   obtain ⟨ao_y1, cp_y1, rfl, hp⟩ := hp
   replace hst := hst.call0 hp
   clear hp
   refine TK (t := 80) rfl (congrArg Value.bool g11) <| Op1.move (v := .slice _ _ _) rfl <| TK (t := 80) rfl (congrArg Value.bool g11) (Op1.call1 (v1 := .slice _ _ _) ent26 rfl rfl ((R4lx_texts _ _ _ _ (Res.rs_of_sl (hst.hL _ (.tail _ (.tail _ (.tail _ (.tail _ (.head _))))))) (by omega)).mono fun v w hp => ?_))
   obtain ⟨ao_y2, cp_y2, rfl, hp⟩ := hp
   replace hst := hst.call0 hp
   clear hp
   refine TK (t := 80) rfl (congrArg Value.bool g11) (Op1.call2 (v1 := .slice _ _ _) (v2 := .slice _ _ _) ent25 rfl rfl rfl ((R4lx_Texts _ _ _ _ _ _ _ ((Res.rs_of_sl (hst.hL _ (.tail _ (.head _))))) ((Res.rs_of_sl (hst.hL _ (.head _)))) (by rw [List.length_map]; omega)).mono fun v w hp => ?_))
   obtain ⟨rfl, hp⟩ := hp
   replace hst := hst.keepc hp
   clear hp
   refine TK (t := 80) rfl (congrArg Value.bool g11) <| Op1.notD rfl <| CN <| Op1.pickF (u := .bool _) (congrArg Value.bool g11) rfl <| NL <| Run.forget [(0, str _), (1, str _), (2, .int .i64 _), (9, .slice _ _ _), (11, .slice _ _ _), (87, .bool _)] ⟨rfl, rfl, rfl, rfl, rfl, rfl, trivial⟩ fun f => run_cond_dec rfl (fun g12 => ?_) (fun g12 => ?_)
   · skip
     exfalso
     exact g12 (shift_txt b _)
   refine run_skip <| SQ <| SR <| AI rfl <| NL <| run_block <| run_loop <| Run.indW [(0, str _), (1, str _), (2, .int .i64 _), (9, .slice _ _ _), (11, .slice _ _ _)] ⟨rfl, rfl, rfl, rfl, rfl, trivial⟩ (fun (qq : Nat) => [(13, .int .i64 (qq : Int))]) (fun (qq : Nat) => []) (fun (qq : Nat) => qq ≤ (toksF s).1.length) (fun (qq : Nat) => (toksF s).1.length - qq) (0) hst (Nat.zero_le _) ⟨rfl, trivial⟩ ?_
   intro i f w hst hJ ih13
   replace hst : St _ _ ([] ++ [_, _, _, _, _, _]) _ _ := hst
   replace hJ : i ≤ (toksF s).1.length := hJ
   refine Run.slots (sl := [(13, .int .i64 (i : Int))]) ⟨rfl, trivial⟩ <| SQ <| SR <| MI rfl <| ML rfl <| CN <| Op1.lenSl (rest := []) ty22 rfl <| CN <| Op1.lss rfl rfl <| NL <| run_cond_dec rfl (fun g14 => ?_) (fun g14 => ?_)
   · skip
     have hat := toksF_at (s := s) (j := i) (by omega)
     have hsg := shift_get (b := b) (l := (toksF s).1) (j := i) (by omega)
     have hidx : ((toksF s).1.getD ((i : Int).toNat) tok0).at_ = ((toksF s).1.getD i tok0).at_ := rfl
     refine run_skip <| SQ <| run_block <| SQ <| RunD.start [] hst (bs := [0, 0, 3, 7, 15, 0, 0, 96, 224, 480, 0, 2016, 4095]) (ds := [some 94, some 95, some 96, some 97, some 98, some 99, some 100, some 101, some 102, some 103, some 104, some 105, some 106]) ⟨by kernel_rfl, by kernel_rfl, by kernel_rfl⟩ (fun tab15 => ?_)
     refine RunD.op (det _) tab15 1 (fun f' L' w' hc => Op1.move (v := .slice _ _ _) (hc.old (v := .slice _ _ _) rfl rfl rfl) ⟨[], ⟨rfl, rfl⟩, hc.st⟩) <| RunD.op (det _) tab15 2 (fun f' L' w' hc => Op1.move (v := .int .i64 _) (hc.old (v := .int .i64 _) rfl rfl rfl) ⟨[], ⟨rfl, rfl⟩, hc.st⟩) <| RunD.op (det _) tab15 3 (fun f' L' w' hc => Op1.indexRs ty22 ty30 ((Res.rs_of_sl (hc.st.hL _ (List.mem_append_right _ (.tail _ (.tail _ (.tail _ (.head _)))))))) (hc.det (j := 0) rfl rfl rfl rfl) (hc.det (j := 1) rfl rfl rfl rfl) (by omega) (by omega) ⟨[], ⟨rfl, rfl⟩, hc.st⟩) <| RunD.op (det _) tab15 4 (fun f' L' w' hc => Op1.fieldAddr fld30_2 (hc.det (j := 2) rfl rfl rfl rfl) ⟨[], ⟨rfl, rfl⟩, hc.st⟩) <| RunD.op (det _) tab15 5 (fun f' L' w' hc => Op1.load1 (v := .int .i64 _) ty3 rfl (hc.det (j := 3) rfl rfl rfl rfl) (Res.rs2_cellF ((Res.rs_of_sl (hc.st.hL _ (List.mem_append_right _ (.tail _ (.tail _ (.tail _ (.head _)))))))) (flat_cell (g := tokC) (d := tok0) tokC_len rfl (by omega))) ⟨[], ⟨rfl, rfl⟩, hc.st⟩) <| RunD.op (det _) tab15 6 (fun f' L' w' hc => Op1.move (v := .slice _ _ _) (hc.old (v := .slice _ _ _) rfl rfl rfl) ⟨[], ⟨rfl, rfl⟩, hc.st⟩) <| RunD.op (det _) tab15 7 (fun f' L' w' hc => Op1.move (v := .int .i64 _) (hc.old (v := .int .i64 _) rfl rfl rfl) ⟨[], ⟨rfl, rfl⟩, hc.st⟩) <| RunD.op (det _) tab15 8 (fun f' L' w' hc => Op1.indexRs ty22 ty30 ((Res.rs_of_sl (hc.st.hL _ (List.mem_append_right _ (.tail _ (.tail _ (.tail _ (.tail _ (.tail _ (.head _)))))))))) (hc.det (j := 5) rfl rfl rfl rfl) (hc.det (j := 6) rfl rfl rfl rfl) (by omega) (by omega) ⟨[], ⟨rfl, rfl⟩, hc.st⟩) <| RunD.op (det _) tab15 9 (fun f' L' w' hc => Op1.fieldAddr fld30_2 (hc.det (j := 7) rfl rfl rfl rfl) ⟨[], ⟨rfl, rfl⟩, hc.st⟩) <| RunD.op (det _) tab15 10 (fun f' L' w' hc => Op1.load1 (v := .int .i64 _) ty3 rfl (hc.det (j := 8) rfl rfl rfl rfl) (Res.rs2_cellF ((Res.rs_of_sl (hc.st.hL _ (List.mem_append_right _ (.tail _ (.tail _ (.tail _ (.tail _ (.tail _ (.head _)))))))))) (flat_cell (g := tokC) (d := tok0) tokC_len rfl (by omega))) ⟨[], ⟨rfl, rfl⟩, hc.st⟩) <| RunD.op (det _) tab15 11 (fun f' L' w' hc => Op1.move (v := .int .i64 _) (hc.old (v := .int .i64 _) rfl rfl rfl) ⟨[], ⟨rfl, rfl⟩, hc.st⟩) <| RunD.op (det _) tab15 12 (fun f' L' w' hc => Op1.addN (hc.det (j := 9) rfl rfl rfl rfl) (hc.det (j := 10) rfl rfl rfl rfl) rfl (wrap_i64 (by omega) (by omega)) ⟨[], ⟨rfl, rfl⟩, hc.st⟩) <| RunD.fin followsMixed tab15 hst rfl (fun f16 w R19 hs17 hd18 hr20 hst => ?_)
     obtain ⟨h94_, r0⟩ := hd18 0 94 rfl rfl
     obtain ⟨h95_, r1⟩ := hd18 1 95 rfl rfl
     obtain ⟨h96_, r2⟩ := hd18 2 96 rfl rfl
     obtain ⟨h97_, r3⟩ := hd18 3 97 rfl rfl
     obtain ⟨h98_, r4⟩ := hd18 4 98 rfl rfl
     obtain ⟨h99_, r5⟩ := hd18 5 99 rfl rfl
     obtain ⟨h100_, r6⟩ := hd18 6 100 rfl rfl
     obtain ⟨h101_, r7⟩ := hd18 7 101 rfl rfl
     obtain ⟨h102_, r8⟩ := hd18 8 102 rfl rfl
     obtain ⟨h103_, r9⟩ := hd18 9 103 rfl rfl
     obtain ⟨h104_, r10⟩ := hd18 10 104 rfl rfl
     obtain ⟨h105_, r11⟩ := hd18 11 105 rfl rfl
     simp only [show List.range 12 = [0, 1, 2, 3, 4, 5, 6, 7, 8, 9, 10, 11] from rfl, List.flatMap_cons, List.flatMap_nil, List.map_cons, List.map_nil, r0, r1, r2, r3, r4, r5, r6, r7, r8, r9, r10, r11, List.nil_append, List.append_nil, List.cons_append] at hst
     refine RunL.slots (sl := [(0, str _), (1, str _), (2, .int .i64 _), (9, .slice _ _ _), (11, .slice _ _ _), (13, .int .i64 _), (98, .int .i64 _), (105, .int .i64 _)]) ⟨(hs17 0 rfl).trans rfl, (hs17 1 rfl).trans rfl, (hs17 2 rfl).trans rfl, (hs17 9 rfl).trans rfl, (hs17 11 rfl).trans rfl, (hs17 13 rfl).trans rfl, h98_, h105_, trivial⟩ ?_
     clear hs17 hd18 hr20 tab15
     refine CN <| Op1.neq rfl rfl <| NL <| run_cond_dec rfl (fun g21 => ?_) (fun g21 => ?_)
     · skip
       exfalso
       exact g21 hsg
     refine run_skip <| run_inBlock <| RG <| MI rfl <| CN <| Op1.addN rfl rfl rfl (wrap_i64 (by omega) (by omega)) <| AI rfl <| NL <| run_inLoop ?_
     exact ih13 (i + 1) _ w ((by omega)) hst ((by omega)) ⟨rfl, rfl, rfl, rfl, rfl, trivial⟩ ⟨(congrArg (Value.int .i64) (by omega)), trivial⟩
   refine run_exit (id := 2) rfl <| SR <| MS rfl <| CN <| Op1.addS rfl rfl (by first | omega | (simp only [List.length_cons, List.length_nil, List.length_append]; omega) | (simp; omega)) <| MS rfl <| CN <| Op1.addS rfl rfl (by first | omega | (simp only [List.length_cons, List.length_nil, List.length_append]; omega) | (simp; omega)) <| CN (Op1.call1 (v1 := str _) ent15 rfl rfl ((R4lx_TokE (s ++ [32, 59] ++ z) (toksF s).1 0 0 ((note_behind z he0).trans (toksF_zero he0)) _ (hst.hD _ (.head _)) (by simp only [List.length_append, List.length_cons, List.length_nil]; omega)).mono fun v w hp => ?_))
   obtain ⟨ao_x3, cp_x3, rfl, hp⟩ := hp
   replace hst := hst.call0 hp
   clear hp
   refine CN <| Op1.move (v := .tuple #[.slice _ _ _, .agg #[.int .i64 _, .int .i64 _]]) rfl <| CN <| Op1.extract (v := .slice _ _ _) rfl rfl <| CN <| Op1.extract (v := .agg #[.int .i64 _, .int .i64 _]) rfl rfl <| CN <| Op1.alloc hst ty25 fun w b15 hst => AL rfl <| CN (SO (v := .agg #[.int .i64 _, .int .i64 _]) hst ty25 rfl rfl (.here) fun w hst => ?_)
   refine NSR <| CN <| Op1.fieldAddr fld25_0 rfl <| CN <| Op1.load1 (v := .int .i64 _) ty23 rfl rfl (hst.cellL (.head _) rfl) <| CN <| Op1.eql rfl rfl <| MB rfl <| RunL.splitD (d := 118) rfl (fun g22 => ?_) (fun g22 => ?_)
   · skip
     refine TK (t := 118) rfl (congrArg Value.bool (decide_eq_true g22)) <| Op1.move (v := .slice _ _ _) rfl <| TK (t := 118) rfl (congrArg Value.bool (decide_eq_true g22)) <| Op1.move (v := .slice _ _ _) rfl <| TK (t := 118) rfl (congrArg Value.bool (decide_eq_true g22)) (Op1.call2 (v1 := .slice _ _ _) (v2 := .slice _ _ _) ent16 rfl rfl rfl ((R4lx_tokens _ _ _ _ _ _ _ (Res.rs_of_sl (hst.hL _ (.tail _ (.head _)))) (Res.rs_of_sl (hst.hL _ (.tail _ (.tail _ (.tail _ (.tail _ (.tail _ (.tail _ (.tail _ (.head _)))))))))) (by omega)).mono fun v w hp => ?_))
     obtain ⟨rfl, hp⟩ := hp
     replace hst := hst.keepc hp
     clear hp
     refine CN <| Op1.pickT (u := .bool _) (congrArg Value.bool (decide_eq_true g22)) rfl <| MB rfl <| RunL.splitD (d := 123) rfl (fun g23 => ?_) (fun g23 => ?_)
     · skip
       refine TK (t := 123) rfl (congrArg Value.bool (decide_eq_true g23)) (Op1.call0  ent17 rfl  ((R4lx_awake _ (hst.hD _ (.head _))).mono fun v w hp => ?_))
       obtain ⟨rfl, hp⟩ := hp
       replace hst := hst.keepc hp
       clear hp
       refine CN <| Op1.pickT (u := .bool _) (congrArg Value.bool (decide_eq_true g23)) rfl <| AB rfl <| NL <| run_ret1 Tryd.func7 rfl (TP (v := .bool _) rfl) ?_
       exact ⟨rfl, hst.pure⟩
     exfalso
     exact g23 rfl
   exfalso
   exact g22 rfl
 · skip
   refine SR <| MI rfl <| CN <| Op1.lss rfl rfl <| MB rfl <| RunL.splitD (d := 18) rfl (fun g24 => ?_) (fun g24 => ?_)
   · skip
     refine OM (t := 18) rfl (congrArg Value.bool (decide_eq_true g24)) rfl <| OM (t := 18) rfl (congrArg Value.bool (decide_eq_true g24)) rfl <| CN <| Op1.pickT (u := .bool _) (congrArg Value.bool (decide_eq_true g24)) rfl <| NL <| run_cond_true (congrArg Value.bool (rfl : true = _)) <| RG <| AI rfl <| NL ?_
     exact cut1 (3) _ w (hst) (by omega) ⟨rfl, rfl, trivial⟩ ⟨rfl, trivial⟩
   refine TK (t := 18) rfl (congrArg Value.bool (decide_eq_false g24)) <| Op1.move (v := .int .i64 _) rfl <| TK (t := 18) rfl (congrArg Value.bool (decide_eq_false g24)) <| Op1.gtr rfl rfl <| CN <| Op1.pickF (u := .bool _) (congrArg Value.bool (decide_eq_false g24)) rfl <| NL <| run_cond_dec rfl (fun g25 => ?_) (fun g25 => ?_)
   · skip
     refine RG <| AI rfl <| NL ?_
     exact cut1 (3) _ w (hst) (by omega) ⟨rfl, rfl, trivial⟩ ⟨rfl, trivial⟩
   refine run_skip ?_
   exact cut1 (x.toNat) _ w (hst) (by omega) ⟨rfl, rfl, trivial⟩ ⟨(congrArg (Value.int .i64) (by omega)), trivial⟩
end Go.SK
