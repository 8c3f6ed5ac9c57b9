/-
  Steps of functions, plain law, and walks of functions: what the laws rest on.
-/
import Derived.Test.YtoodfjpigminkaaSkG0d
import Derived.Test.YtoodfjpigminkaaSkG2a
import Derived.Test.YtoodfjpigminkaaSkG5a
import Derived.Test.YtoodfjpigminkaaSkG6a
import Derived.Test.YtoodfjpigminkaaSkG9a
import Derived.Test.YtoodfjpigminkaaSkG10a
import Derived.Test.YtoodfjpigminkaaSkG14a
import Derived.Test.YtoodfjpigminkaaSkG18a
import Derived.Test.YtoodfjpigminkaaSkG21a
set_option linter.unusedVariables false
set_option linter.unusedSimpArgs false
set_option linter.unusedSectionVars false
namespace Go.SK
theorem textF_pad2 {l : List Int} {n i : Nat} (hn : n < 4 * l.length) (hz : ((byteAt l n).toNat : Int) = 0) (h : ∀ q, q < n → (joinW l).getD q 0 ≠ 0) (hi : n < i) (hi2 : i < 4 * (n / 4) + 4) (hb : ¬ ((byteAt l i).toNat : Int) = 0) : textF l = ([], 0, 12) := by
  refine textF_pad (j := n / 4) (t := n % 4) (by omega) (by omega) (by rw [← byteAt_j]; exact hz) (by rw [show 4 * (n / 4) + n % 4 = n by omega]; exact h) (fun hx => hb ?_)
  rw [byteAt_j, show i / 4 = n / 4 by omega, byteU_nat, div_zero_more hx (by omega)]; rfl
theorem takeB_get {l : List Int} {n i : Nat} (hi : i < n) (hn : n ≤ 4 * l.length) : ((joinW l).take n).getD i 0 = byteAt l i := by
  rw [← joinW_get (by omega)]
  simp [List.getD, List.getElem?_take, hi]
theorem takeB_len {l : List Int} {n : Nat} (hn : n ≤ 4 * l.length) : ((joinW l).take n).length = n := by rw [List.length_take, joinW_len]; omega
end Go.SK
namespace Go.SK
variable {P : Program} {b : Base} {k : List Item} {E : Frame → World → Prop} {ops : Array Oper} {f : Nat → Value} {w0 w : World} {M : Nat → Prop} {L D : List Res} {pd : Pend} {tk : Takes} {bs : List Nat} {ds : List (Option Nat)} {i : Nat} {l : List Oper} {ws : Nat → Word}
def overW (t : Nat) (T : TypeId) (X : List Value) : Word := fun g v rs => v = undef ∧ ∃ b, g t = .pointer (some ⟨b, 0, none⟩) ∧ rs = [Res.row b T X]
theorem RunD.overS {d : Option Tmp} {op : Op} {ty : TypeId} {pos : String} {aft : Array Edge} {T : TypeId} {zs : List Value} (X : List Value) (htab : DrawTab ops bs ds) (i' : Nat) (j t : Nat) (hm : (j, i) ∈ tk) (ht : ds.getD j none = some t) (hw : bitB (bs.getD i 0) j = true)
    (hz : ws j = cw (fun v rs => ∃ b, v = .pointer (some ⟨b, 0, none⟩) ∧ rs = [Res.row b T zs]))
    (hv : ∀ f' L' w' c L2, Know1 tk bs ds f w0 M L D i ws f' L' w' → f' t = .pointer (some ⟨c, 0, none⟩) → St w0 M (Res.row c T zs :: L2) D w' → Op1 P op ty (ev b.n f') w' (fun v w'' => v = undef ∧ St w0 M (Res.row c T X :: L2) D w''))
    (h : RunD tk pd P b ops bs ds k E f w0 M L D w i' l (updW ws i (overW t T X))) (hj : Nat.blt j i = true := by rfl) (hi : i + 1 = i' := by rfl) (hd : isDefer op = false := by rfl) : RunD tk pd P b ops bs ds k E f w0 M L D w i (⟨d, op, ty, pos, aft, none⟩ :: l) ws := by
  refine RunD.over (overW t T X) htab i' j t hm ht (fun f' L' L'' w' hc hq => ?_) h hj hi hd
  obtain ⟨g, rs, h1, _, hp⟩ := hq
  rw [hz] at h1
  obtain ⟨c, hc1, hrs⟩ := h1
  subst hrs
  have hst : St w0 M (Res.row c T zs :: (L'' ++ L)) D w' := hc.st.perm (hp.append_right L)
  exact (hv f' L' w' c _ hc hc1 hst).mono fun v w'' h2 => ⟨[Res.row c T X], fun g hg => ⟨h2.1, c, (hg j t hw ht).trans hc1, rfl⟩, h2.2⟩
end Go.SK
namespace Go.SK
def argQ (c : Int) (ws : List Int) (bound : Int) : ArgP × Nat × Int :=
  if c = 0 ∨ ws.length = 0 then (zeroA, 0, 42)
  else if kindS c = 3 then (⟨3, 0, (textF ws).1⟩, (textF ws).2.1.toNat, (textF ws).2.2)
  else if kindS c = 1 ∧ (ws.getD 0 0 = 0 ∨ ws.getD 0 0 ≥ bound) then (zeroA, 0, 43)
  else if kindS c = 4 ∧ (namesL.find? (enN c (ws.getD 0 0))).isSome = false then (zeroA, 0, 31)
  else (⟨kindS c, ws.getD 0 0, []⟩, 1, 0)
section
variable {c bound : Int} {ws : List Int}
theorem argQ_none (h : c = 0 ∨ ws.length = 0) : argQ c ws bound = (zeroA, 0, 42) := if_pos h
theorem argQ_text (h : ¬ c = 0) (h2 : ¬ ws.length = 0) (hk : kindS c = 3) : argQ c ws bound = (⟨3, 0, (textF ws).1⟩, (textF ws).2.1.toNat, (textF ws).2.2) := by
  unfold argQ; rw [if_neg (fun h3 => h3.elim h h2), if_pos hk]
theorem argQ_id (h : ¬ c = 0) (h2 : ¬ ws.length = 0) (hk : kindS c = 1) (h3 : ws.getD 0 0 = 0 ∨ ws.getD 0 0 ≥ bound) : argQ c ws bound = (zeroA, 0, 43) := by
  unfold argQ; rw [if_neg (fun h3 => h3.elim h h2), if_neg (by omega), if_pos ⟨hk, h3⟩]
theorem argQ_enum (h : ¬ c = 0) (h2 : ¬ ws.length = 0) (hk : kindS c = 4) (h3 : (namesL.find? (enN c (ws.getD 0 0))).isSome = false) : argQ c ws bound = (zeroA, 0, 31) := by
  unfold argQ; rw [if_neg (fun h3 => h3.elim h h2), if_neg (by omega), if_neg (by omega), if_pos ⟨hk, h3⟩]
theorem argQ_one (h : ¬ c = 0) (h2 : ¬ ws.length = 0) (hk : ¬ kindS c = 3) (h1 : ¬ (kindS c = 1 ∧ (ws.getD 0 0 = 0 ∨ ws.getD 0 0 ≥ bound))) (h3 : ¬ (kindS c = 4 ∧ (namesL.find? (enN c (ws.getD 0 0))).isSome = false)) : argQ c ws bound = (⟨kindS c, ws.getD 0 0, []⟩, 1, 0) := by
  unfold argQ; rw [if_neg (fun h3 => h3.elim h h2), if_neg hk, if_neg h1, if_neg h3]
theorem argQ_E : (argE c ws bound).2.2 = (argQ c ws bound).2.2 ∧ ((argQ c ws bound).2.2 = 0 → argE c ws bound = argQ c ws bound) := by
  by_cases h : c = 0 ∨ ws.length = 0
  · rw [argQ_none h, argE_none h]; exact ⟨rfl, fun _ => rfl⟩
  · have h1 : ¬ c = 0 := fun e => h (.inl e)
    have h2 : ¬ ws.length = 0 := fun e => h (.inr e)
    by_cases hk : kindS c = 3
    · rw [argQ_text h1 h2 hk, argE_text h1 h2 hk]; exact ⟨rfl, fun _ => rfl⟩
    · rw [argE_one h1 h2 hk]
      by_cases hi : kindS c = 1 ∧ (ws.getD 0 0 = 0 ∨ ws.getD 0 0 ≥ bound)
      · rw [argQ_id h1 h2 hi.1 hi.2, if_pos hi.1]
        unfold idE; rw [if_pos hi.2]
        exact ⟨rfl, fun hx => absurd hx (by decide)⟩
      · by_cases he : kindS c = 4 ∧ (namesL.find? (enN c (ws.getD 0 0))).isSome = false
        · rw [argQ_enum h1 h2 he.1 he.2, if_neg (by omega), if_pos he.1]
          unfold enumE; rw [if_neg (by rw [he.2]; decide)]
          exact ⟨rfl, fun hx => absurd hx (by decide)⟩
        · rw [argQ_one h1 h2 hk hi he]
          have e0 : (if kindS c = 1 then idE (ws.getD 0 0) bound else if kindS c = 4 then enumE c (ws.getD 0 0) else 0) = 0 := by
            by_cases k1 : kindS c = 1
            · rw [if_pos k1]; exact idE_zero.2 fun hx => hi ⟨k1, hx⟩
            · rw [if_neg k1]
              by_cases k4 : kindS c = 4
              · rw [if_pos k4]; refine enumE_zero.2 ?_
                cases hs : (namesL.find? (enN c (ws.getD 0 0))).isSome with
                | true => rfl
                | false => exact absurd ⟨k4, hs⟩ he
              · rw [if_neg k4]
          rw [e0]; exact ⟨rfl, fun _ => rfl⟩
end
theorem wholeQ_E {op : Int} {ags : List ArgP} (hob : (refS op).isSome = true) (h : badI (refD op) 0 (ags.map ArgP.kind) = none) : wholeE op ags = if wholeQ (refD op) ags.length = true then 0 else 42 := by
  rw [wholeE_of hob h]
  have hq := wholeQ_off (fm := refD op) (n := ags.length) (fun hr => by have := bad_long hr h; rwa [List.length_map] at this)
  by_cases ho : offR (refD op) ags.length
  · rw [if_pos ho, if_neg (fun hx => hq.1 hx ho)]
  · rw [if_neg ho, if_pos (hq.2 ho)]
section
variable {fm : FormL} {bound : Int} {l : List Int}
theorem A1.heads (h : (headsF fm l bound).2 = 0) : A1 fm l bound (b2n fm.ty + b2n fm.res) 0 [] :=
  A1.start (ty := if fm.ty = true then l.getD 0 0 else 0) (res := if fm.res = true then l.getD (b2n fm.ty) 0 else 0) ⟨(heads_le h).1, fun _ => ⟨h, rfl, rfl, rfl⟩, fun hx => absurd rfl hx⟩
theorem heads_one (h : (headsF fm l bound).2 = 0) : (headsF fm l bound).1 = b2n fm.ty + b2n fm.res := by
  unfold headsF at h ⊢
  split at h
  · cases h
  · rename_i h1; rw [if_neg h1]
    split at h
    · cases h
    · rename_i h2; rw [if_neg h2]
      split at h
      · cases h
      · rename_i h3; rw [if_neg h3]
        split at h
        · cases h
        · rename_i h4; rw [if_neg h4]
end
end Go.SK
namespace Go.SK
open Go Go.Proofs
open Go.RowKit
theorem R3ref1_Text (l : List Int) (hw : Wd l) (ao : Option Addr) (cp : Nat) (w : World) (hA : (Res.rs ao l.length 1 (l.flatMap u32C)).holds w) (hl : l.length ≤ 35184372088832) : Ret Try.prog 80 #[.slice ao l.length cp] w (fun v w' => v = textV (textF l) ∧ St w NoM [] [] w') := by
 refine Ret.enter (args := [.slice ao l.length cp]) Try.func80 rfl rfl rfl ?_
 have hst : St w NoM [] [Res.rs ao l.length 1 (l.flatMap u32C)] w := St.init_D hA
 clear hA
 refine SR <| AS rfl <| AI rfl <| AI rfl <| NSR <| AI rfl <| NL <| SQ <| run_block <| run_loop <| Run.indW [(0, .slice _ _ _)] ⟨rfl, trivial⟩ (fun (n : Nat) => [(5, .int .i64 (n : Int))]) (fun (n : Nat) => []) (fun (n : Nat) => n ≤ 4 * l.length ∧ ∀ r, r < n → (joinW l).getD r 0 ≠ 0) (fun (n : Nat) => 4 * l.length - n) (0) hst ⟨Nat.zero_le _, fun r hr => absurd hr (by omega)⟩ ⟨rfl, trivial⟩ ?_
 intro n f w hst hJ ih1
 refine SQ <| SR <| MI rfl <| ML rfl <| CN (Op1.lenSl (rest := []) ty43 rfl ?_)
 first | refine CN (Op1.mulN rfl rfl rfl (wrap_i64 (by omega) (by omega)) ?_) | refine CN (Op1.mulB rfl rfl (by omega) (by omega) (by omega) (by omega) (fun hm2 hm3 => ?_))
 refine CN <| Op1.lss rfl rfl <| MB rfl <| RunL.splitD (d := 14) rfl (fun g4 => ?_) (fun g4 => ?_)
 · skip
   refine TK (t := 14) rfl (congrArg Value.bool (decide_eq_true g4)) <| Op1.move (v := .slice _ _ _) rfl <| TK (t := 14) rfl (congrArg Value.bool (decide_eq_true g4)) <| Op1.move (v := .int .i64 _) rfl <| TK (t := 14) rfl (congrArg Value.bool (decide_eq_true g4)) (Op1.call2 (v1 := .slice _ _ _) (v2 := .int .i64 _) ent73 rfl rfl rfl ((R3ref1_Byte _ hw n (by omega) _ _ _ (hst.hD _ (.head _)) (by omega)).mono fun v w hp => ?_))
   obtain ⟨rfl, hp⟩ := hp
   replace hst := hst.keepc hp
   clear hp
   refine TK (t := 14) rfl (congrArg Value.bool (decide_eq_true g4)) <| Op1.neq rfl rfl <| CN <| Op1.pickT (u := .bool _) (congrArg Value.bool (decide_eq_true g4)) rfl <| NL <| run_cond_dec rfl (fun g5 => ?_) (fun g5 => ?_)
   · skip
     refine run_skip <| run_block <| RG <| MI rfl <| CN <| Op1.addN rfl rfl rfl (wrap_i64 (by omega) (by omega)) <| AI rfl <| NL <| run_inBlock <| run_inLoop ?_
     exact ih1 (n + 1) _ w (by omega) hst (⟨by omega, nz_step hJ.2 (by rw [joinW_get (by omega)]; exact byte1 g5)⟩) ⟨rfl, trivial⟩ ⟨(congrArg (Value.int .i64) (by omega)), trivial⟩
   refine run_exit (id := 0) rfl <| SQ <| SR <| MI rfl <| ML rfl <| CN (Op1.lenSl (rest := []) ty43 rfl ?_)
   first | refine CN (Op1.mulN rfl rfl rfl (wrap_i64 (by omega) (by omega)) ?_) | refine CN (Op1.mulB rfl rfl (by omega) (by omega) (by omega) (by omega) (fun hm6 hm7 => ?_))
   refine CN <| Op1.eql rfl rfl <| NL <| run_cond_dec rfl (fun g8 => ?_) (fun g8 => ?_)
   · skip
     exfalso
     omega
   refine run_skip <| SQ <| SR <| MI rfl <| CN <| Op1.addN rfl rfl rfl (wrap_i64 (by omega) (by omega)) <| AI rfl <| NL <| run_block <| Run.forget [(0, .slice _ _ _), (5, .int .i64 _), (6, .int .i64 _)] ⟨rfl, rfl, rfl, trivial⟩ fun f => run_loop <| Run.indW [(0, .slice _ _ _), (5, .int .i64 _)] ⟨rfl, rfl, trivial⟩ (fun (i : Nat) => [(6, .int .i64 (i : Int))]) (fun (i : Nat) => []) (fun (i : Nat) => n + 1 ≤ i ∧ i ≤ 4 * (n / 4) + 4 ∧ ∀ r, n < r → r < i → ((byteAt l r).toNat : Int) = 0) (fun (i : Nat) => 4 * (n / 4) + 4 - i) (n + 1) hst ⟨Nat.le_refl _, by omega, fun r h1 h2 => absurd h1 (by omega)⟩ ⟨rfl, trivial⟩ ?_
   intro i f w hst hK ih9
   refine SQ <| SR <| MI rfl ?_
   first | refine CN (Op1.remN rfl rfl (by omega) (by omega) rfl ?_) | refine CN (Op1.rem rfl rfl (by omega) ?_)
   refine CN <| Op1.neq rfl rfl <| NL <| run_cond_dec rfl (fun g10 => ?_) (fun g10 => ?_)
   · skip
     refine run_skip <| SQ <| run_block <| SR <| ML rfl <| MI rfl <| CN <| Op1.call2 (v1 := .slice _ _ _) (v2 := .int .i64 _) ent73 rfl rfl rfl <| Ret.det (R3ref1_Byte _ hw i (by omega) _ _ _ (hst.hD _ (.head _)) (by omega)) hst fun w hst => CN <| Op1.neq rfl rfl <| NL <| run_cond_dec rfl (fun g11 => ?_) (fun g11 => ?_)
     · skip
       refine SR <| AS rfl <| AI rfl <| AI rfl <| NL <| run_ret3 Try.func80 rfl (TP (v := str _) rfl) (TP (v := .int .i64 _) rfl) (TP (v := .int .i64 _) rfl) ?_
       rw [textF_pad2 (n := n) (i := i) (by omega) (Classical.not_not.1 g5) hJ.2 (by omega) (by omega) g11]
       exact ⟨rfl, hst.pure⟩
     refine run_skip <| run_inBlock <| RG <| MI rfl <| CN <| Op1.addN rfl rfl rfl (wrap_i64 (by omega) (by omega)) <| AI rfl <| NL <| run_inLoop ?_
     exact ih9 (i + 1) _ w (by omega) hst (⟨by omega, by omega, fun r h1 h2 => by
     by_cases e : r = i
     · rw [e]; exact Classical.not_not.1 g11
     · exact hK.2.2 r h1 (by omega)⟩) ⟨rfl, rfl, trivial⟩ ⟨(congrArg (Value.int .i64) (by omega)), trivial⟩
   have htx := textF_ok2 hw (n := n) (by omega) (Classical.not_not.1 g5) hJ.2 (fun r h1 h2 => hK.2.2 r h1 (by omega))
   refine run_exit (id := 2) rfl <| SR <| MI rfl <| CN (Op1.makeSlV (k := n) hst ty22 ty5 rfl rfl rfl (by decide) (by omega) (by omega) fun w bC hst => ?_)
   rw [cpG_zero (g := byC) (d := (0 : UInt8)) (ez := [.int .u8 0]) rfl ((joinW l).take n)] at hst
   have hBl : ((joinW l).take n).length = n := takeB_len (by omega)
   refine AL rfl <| NL <| SQ <| SR <| AI rfl <| NL <| run_block <| run_loop <| Run.indW [(0, .slice _ _ _), (5, .int .i64 _), (7, .slice _ _ _)] ⟨rfl, rfl, rfl, trivial⟩ (fun (i : Nat) => [(8, .int .i64 (i : Int))]) (fun (i : Nat) => [Res.sl (some ⟨bC, 0, none⟩) n n 5 1 ((cpG (0 : UInt8) ((joinW l).take n) n i).flatMap byC)]) (fun (i : Nat) => i ≤ n) (fun (i : Nat) => n - i) (0) hst (Nat.zero_le _) ⟨rfl, trivial⟩ ?_
   intro i f w hst hM ih12
   refine SQ <| SR <| MI rfl <| MI rfl <| CN <| Op1.lss rfl rfl <| NL <| run_cond_dec rfl (fun g13 => ?_) (fun g13 => ?_)
   · skip
     refine run_skip <| SQ <| run_block <| RG <| ML rfl <| MI rfl <| ML rfl <| MI rfl <| CN <| Op1.call2 (v1 := .slice _ _ _) (v2 := .int .i64 _) ent73 rfl rfl rfl <| Ret.det (R3ref1_Byte _ hw i (by omega) _ _ _ (hst.hD _ (.head _)) (by omega)) hst fun w hst => CN <| Op1.indexSl ty22 ty5 rfl rfl (by omega) (by omega) <| CN <| Op1.storeSl (v := .int .u8 _) hst ty5 rfl rfl rfl rfl rfl (.here) (by simp only [List.length_cons, List.length_nil]; omega) fun w hst => NL <| run_inBlock <| RG <| MI rfl ?_
     refine CN <| Op1.addN rfl rfl rfl (wrap_i64 (by omega) (by omega)) <| AI rfl <| NL <| run_inLoop ?_
     exact ih12 (i + 1) _ w (by omega) (by (try dsimp only); rw [← cpG_stepN (g := byC) (es := 1) byC_len (i := i) (x := byC (byteAt l i)) hBl.symm (by omega) (by rw [takeB_get (by omega) (by omega)])]; exact hst) (by omega) ⟨rfl, rfl, rfl, trivial⟩ ⟨(congrArg (Value.int .i64) (by omega)), trivial⟩
   obtain rfl : n = i := by omega
   rw [cpG_allN _ hBl.symm] at hst
   refine run_exit (id := 4) rfl <| SR <| ML rfl <| CN <| Op1.bytesStr2 (l := (joinW l).take n) ty22 ty5 ty9 rfl hBl.symm (Res.rs_of_sl (hst.hL _ (.head _))) rfl <| MI rfl ?_
   first | refine CN (Op1.quoN rfl rfl (by omega) (by omega) rfl (wrap_i64 (by omega) (by omega)) ?_) | refine CN (Op1.quo rfl rfl (by omega) ?_)
   refine CN <| Op1.addN rfl rfl rfl (wrap_i64 (by omega) (by omega)) <| AS rfl <| AI rfl <| AI rfl <| NL <| run_ret3 Try.func80 rfl (TP (v := str _) rfl) (TP (v := .int .i64 _) rfl) (TP (v := .int .i64 _) rfl) ?_
   rw [htx]
   exact ⟨rfl, hst.pure⟩
 refine OM (t := 14) rfl (congrArg Value.bool (decide_eq_false g4)) rfl <| OM (t := 14) rfl (congrArg Value.bool (decide_eq_false g4)) rfl <| OM (t := 14) rfl (congrArg Value.bool (decide_eq_false g4)) rfl <| OM (t := 14) rfl (congrArg Value.bool (decide_eq_false g4)) rfl <| CN <| Op1.pickF (u := .bool _) (congrArg Value.bool (decide_eq_false g4)) rfl <| NL <| run_cond_false (congrArg Value.bool (rfl : false = _)) <| run_exit (id := 0) rfl <| SQ <| SR <| MI rfl <| ML rfl <| CN (Op1.lenSl (rest := []) ty43 rfl ?_)
 first | refine CN (Op1.mulN rfl rfl rfl (wrap_i64 (by omega) (by omega)) ?_) | refine CN (Op1.mulB rfl rfl (by omega) (by omega) (by omega) (by omega) (fun hm14 hm15 => ?_))
 refine CN <| Op1.eql rfl rfl <| NL <| run_cond_dec rfl (fun g16 => ?_) (fun g16 => ?_)
 · skip
   refine SR <| AS rfl <| AI rfl <| AI rfl <| NL <| run_ret3 Try.func80 rfl (TP (v := str _) rfl) (TP (v := .int .i64 _) rfl) (TP (v := .int .i64 _) rfl) ?_
   rw [textF_none (fun r hr => hJ.2 r (by omega))]
   exact ⟨rfl, hst.pure⟩
 exfalso
 omega
end Go.SK
namespace Go.SK
open Go Go.Proofs
theorem ent80 : Enters Try.prog 80 := ⟨Try.f80, _, Try.func80, by kernel_rfl, rfl⟩
end Go.SK
namespace Go.SK
open Go Go.Proofs
open Go.RowKit
theorem textF_nn (l : List Int) : (((textF l).2.1.toNat : Nat) : Int) = (textF l).2.1 := by
 rcases textF_cases l with ⟨e, he, _⟩ | ⟨s, n, he, _⟩ <;> rw [he] <;> simp
theorem R3ref1_Text2 {l : List Int} {s : List UInt8} {n e : Int} (hw : Wd l) (ht : textF l = (s, n, e)) (ao : Option Addr) (cp : Nat) (w : World) (hA : (Res.rs ao l.length 1 (l.flatMap u32C)).holds w) (hl : l.length ≤ 35184372088832) : Ret Try.prog 80 #[.slice ao l.length cp] w (fun v w' => v = .tuple #[str s, .int .i64 n, .int .i64 e] ∧ St w NoM [] [] w') :=
 (R3ref1_Text l hw ao cp w hA hl).mono fun v w' h => ⟨h.1.trans (by rw [ht]), h.2⟩
theorem R3ref4_Argument (c : Int) (h0 : 0 ≤ c) (h1 : c ≤ 255) (l : List Int) (hw : Wd l) (ao : Option Addr) (cp : Nat) (bound : Int) (w : World) (hA : (Res.rs ao l.length 1 (l.flatMap u32C)).holds w) (hl : l.length ≤ 35184372088832) : Ret Try.prog 50 #[.int .u8 c, .slice ao l.length cp, .int .u32 bound] w (fun v w' => v = .tuple #[.agg #[.int .u8 (argQ c l bound).1.kind, .int .u32 (argQ c l bound).1.n, str (argQ c l bound).1.s], .int .i64 ((argQ c l bound).2.1 : Int), .int .i64 (argQ c l bound).2.2] ∧ St w NoM [] [] w') := by
 refine Ret.enter (args := [.int .u8 c, .slice ao l.length cp, .int .u32 bound]) Try.func50 rfl rfl rfl ?_
 have hst : St w NoM [] [Res.rs ao l.length 1 (l.flatMap u32C)] w := St.init_D hA
 clear hA
 obtain ⟨kd, hkd⟩ : ∃ kd, kindS c = kd := ⟨_, rfl⟩
 obtain ⟨o, ho⟩ : ∃ o, namesL.find? (enN c (l.getD 0 0)) = o := ⟨_, rfl⟩
 obtain ⟨ts, tn, te, ht⟩ : ∃ ts tn te, textF l = (ts, tn, te) := ⟨_, _, _, rfl⟩
 refine SR <| CN <| Op1.alloc hst ty71 fun w b6 hst => AI rfl <| AI rfl <| NL <| SQ <| SR <| MC rfl <| CN <| Op1.eql rfl rfl <| MB rfl <| RunL.splitD (d := 17) rfl (fun g1 => ?_) (fun g1 => ?_)
 · skip
   refine OM (t := 17) rfl (congrArg Value.bool (decide_eq_true g1)) rfl <| OM (t := 17) rfl (congrArg Value.bool (decide_eq_true g1)) rfl <| OM (t := 17) rfl (congrArg Value.bool (decide_eq_true g1)) rfl <| CN <| Op1.pickT (u := .bool _) (congrArg Value.bool (decide_eq_true g1)) rfl <| NL <| run_cond_true (congrArg Value.bool (rfl : true = _)) <| SR <| CN (Op1.buildStruct ty71 stf71 .nil ?_)
   refine CN (SO (v := .agg #[.int .u8 _, .int .u32 _, str _]) hst ty71 rfl rfl (.here) fun w hst => ?_)
   refine AI rfl <| AI rfl <| NL <| run_ret3 Try.func50 rfl (RV.cellA (vs := [.int .u8 _, .int .u32 _, str _]) rfl ty71 rfl rfl (cells_of_obj (n := 3) (hst.objL (.head _)) _ rfl)) (TP (v := .int .i64 _) rfl) (TP (v := .int .i64 _) rfl) ?_
   have hE := argQ_none (c := c) (ws := l) (bound := bound) (by omega)
   rw [hE]
   exact ⟨rfl, hst.pure⟩
 refine TK (t := 17) rfl (congrArg Value.bool (decide_eq_false g1)) <| Op1.move (v := .slice _ _ _) rfl <| TK (t := 17) rfl (congrArg Value.bool (decide_eq_false g1)) <| Op1.lenSl (rest := []) ty43 rfl <| TK (t := 17) rfl (congrArg Value.bool (decide_eq_false g1)) <| Op1.eql rfl rfl <| CN <| Op1.pickF (u := .bool _) (congrArg Value.bool (decide_eq_false g1)) rfl <| NL <| run_cond_dec rfl (fun g2 => ?_) (fun g2 => ?_)
 · skip
   refine SR <| CN (Op1.buildStruct ty71 stf71 .nil ?_)
   refine CN (SO (v := .agg #[.int .u8 _, .int .u32 _, str _]) hst ty71 rfl rfl (.here) fun w hst => ?_)
   refine AI rfl <| AI rfl <| NL <| run_ret3 Try.func50 rfl (RV.cellA (vs := [.int .u8 _, .int .u32 _, str _]) rfl ty71 rfl rfl (cells_of_obj (n := 3) (hst.objL (.head _)) _ rfl)) (TP (v := .int .i64 _) rfl) (TP (v := .int .i64 _) rfl) ?_
   have hE := argQ_none (c := c) (ws := l) (bound := bound) (by omega)
   rw [hE]
   exact ⟨rfl, hst.pure⟩
 refine run_skip <| SR <| MC rfl <| CN <| Op1.call1 (v1 := .int .u8 _) ent79 rfl rfl <| Ret.det (R3ref_Kind2 hkd h0 h1 _) hst fun w hst => AC rfl <| NL <| SQ <| SR <| MC rfl <| CN <| Op1.eql rfl rfl <| NL <| run_cond_dec rfl (fun g3 => ?_) (fun g3 => ?_)
 · skip
   refine SR <| ML rfl <| CN <| Op1.call1 (v1 := .slice _ _ _) ent80 rfl rfl <| Ret.det (R3ref1_Text2 hw ht _ _ _ (hst.hD _ (.head _)) hl) hst fun w hst => CN <| Op1.move (v := .tuple #[str _, .int .i64 _, .int .i64 _]) rfl <| CN <| Op1.extract (v := str _) rfl rfl <| CN <| Op1.extract (v := .int .i64 _) rfl rfl <| CN <| Op1.extract (v := .int .i64 _) rfl rfl <| AS rfl <| AI rfl <| AI rfl <| NL <| Run.forget [(6, .pointer (some ⟨_, _, none⟩)), (10, str _), (11, .int .i64 _), (12, .int .i64 _)] ⟨rfl, rfl, rfl, rfl, trivial⟩ fun f => SQ <| RG ?_
   refine MS rfl <| CN (Op1.buildStruct ty71 stf71 (.c (v := .int .u8 _) rfl (h := (.c (v := str _) rfl (h := .nil)))) ?_)
   refine MI rfl <| MI rfl <| CN (SO (v := .agg #[.int .u8 _, .int .u32 _, str _]) hst ty71 rfl rfl (.here) fun w hst => ?_)
   refine AI rfl <| AI rfl <| NL <| run_ret3 Try.func50 rfl (RV.cellA (vs := [.int .u8 _, .int .u32 _, str _]) rfl ty71 rfl rfl (cells_of_obj (n := 3) (hst.objL (.head _)) _ rfl)) (TP (v := .int .i64 _) rfl) (TP (v := .int .i64 _) rfl) ?_
   have hE := argQ_text (c := c) (ws := l) (bound := bound) (by omega) (by omega) (hkd.trans (by omega))
   rw [hE]
   refine ⟨?_, hst.pure⟩
   have hnn := textF_nn l
   dsimp only
   rw [hnn, ht]
 refine run_skip <| SQ <| SR <| MC rfl <| CN <| Op1.eql rfl rfl <| MB rfl <| RunL.splitD (d := 39) rfl (fun g4 => ?_) (fun g4 => ?_)
 · skip
   refine TK (t := 39) rfl (congrArg Value.bool (decide_eq_true g4)) <| Op1.move (v := .slice _ _ _) rfl <| TK (t := 39) rfl (congrArg Value.bool (decide_eq_true g4)) <| Op1.indexRs ty43 ty23 (hst.hD _ (.head _)) rfl rfl (by omega) (by omega) <| TK (t := 39) rfl (congrArg Value.bool (decide_eq_true g4)) <| Op1.load1 (v := .int .u32 _) ty23 rfl rfl (Res.rs2_cell (hst.hD _ (.head _)) (flat_cell0 (g := u32C) (d := 0) u32C_len rfl (by omega))) <| TK (t := 39) rfl (congrArg Value.bool (decide_eq_true g4)) <| Op1.move (v := .int .u32 _) rfl <| TK (t := 39) rfl (congrArg Value.bool (decide_eq_true g4)) (Op1.call2 (v1 := .int .u32 _) (v2 := .int .u32 _) ent78 rfl rfl rfl ((R3ref4_None _ _ _).mono fun v w hp => ?_))
   obtain ⟨rfl, hp⟩ := hp
   replace hst := hst.keepc hp
   clear hp
   refine CN <| Op1.pickT (u := .bool _) (congrArg Value.bool (decide_eq_true g4)) rfl <| NL <| Run.forget [(0, .int .u8 _), (1, .slice _ _ _), (6, .pointer (some ⟨_, _, none⟩)), (9, .int .u8 _), (45, .bool _)] ⟨rfl, rfl, rfl, rfl, rfl, trivial⟩ fun f => run_cond_split rfl (fun g5 => ?_) (fun g5 => ?_)
   · skip
     refine SR <| CN (Op1.buildStruct ty71 stf71 .nil ?_)
     refine CN (SO (v := .agg #[.int .u8 _, .int .u32 _, str _]) hst ty71 rfl rfl (.here) fun w hst => ?_)
     refine AI rfl <| AI rfl <| NL <| run_ret3 Try.func50 rfl (RV.cellA (vs := [.int .u8 _, .int .u32 _, str _]) rfl ty71 rfl rfl (cells_of_obj (n := 3) (hst.objL (.head _)) _ rfl)) (TP (v := .int .i64 _) rfl) (TP (v := .int .i64 _) rfl) ?_
     have hE := argQ_id (c := c) (ws := l) (bound := bound) (by omega) (by omega) (hkd.trans (by omega)) (by simpa using g5)
     rw [hE]
     exact ⟨rfl, hst.pure⟩
   refine run_skip <| SR <| MC rfl <| ML rfl <| CN <| Op1.indexRs ty43 ty23 (hst.hD _ (.head _)) rfl rfl (by omega) (by omega) <| CN <| Op1.load1 (v := .int .u32 _) ty23 rfl rfl (Res.rs2_cell (hst.hD _ (.head _)) (flat_cell0 (g := u32C) (d := 0) u32C_len rfl (by omega))) <| CN <| Op1.call2 (v1 := .int .u8 _) (v2 := .int .u32 _) ent81 rfl rfl rfl <| Ret.det (R3ref_Enum2 ho _) hst fun w hst => CN <| Op1.move (v := .tuple #[str _, .bool _]) rfl <| CN <| Op1.extract (v := str _) rfl rfl <| CN <| Op1.extract (v := .bool _) rfl rfl <| AS rfl <| AB rfl <| NL <| SQ ?_
   refine SR <| MC rfl <| CN <| Op1.eql rfl rfl <| MB rfl <| RunL.splitD (d := 57) rfl (fun g6 => ?_) (fun g6 => ?_)
   · skip
     refine TK (t := 57) rfl (congrArg Value.bool (decide_eq_true g6)) <| Op1.move (v := .bool _) rfl <| TK (t := 57) rfl (congrArg Value.bool (decide_eq_true g6)) <| Op1.not rfl <| CN <| Op1.pickT (u := .bool _) (congrArg Value.bool (decide_eq_true g6)) rfl <| NL <| run_cond_split rfl (fun g7 => ?_) (fun g7 => ?_)
     · skip
       refine SR <| CN (Op1.buildStruct ty71 stf71 .nil ?_)
       refine CN (SO (v := .agg #[.int .u8 _, .int .u32 _, str _]) hst ty71 rfl rfl (.here) fun w hst => ?_)
       refine AI rfl <| AI rfl <| NL <| run_ret3 Try.func50 rfl (RV.cellA (vs := [.int .u8 _, .int .u32 _, str _]) rfl ty71 rfl rfl (cells_of_obj (n := 3) (hst.objL (.head _)) _ rfl)) (TP (v := .int .i64 _) rfl) (TP (v := .int .i64 _) rfl) ?_
       have hE := argQ_enum (c := c) (ws := l) (bound := bound) (by omega) (by omega) (hkd.trans (by omega)) (by rw [ho]; simpa using g7)
       rw [hE]
       exact ⟨rfl, hst.pure⟩
     refine run_skip <| SR <| MC rfl <| ML rfl <| CN <| Op1.indexRs ty43 ty23 (hst.hD _ (.head _)) rfl rfl (by omega) (by omega) <| CN <| Op1.load1 (v := .int .u32 _) ty23 rfl rfl (Res.rs2_cell (hst.hD _ (.head _)) (flat_cell0 (g := u32C) (d := 0) u32C_len rfl (by omega))) <| CN (Op1.buildStruct ty71 stf71 (.c (v := .int .u8 _) rfl (h := (.c (v := .int .u32 _) rfl (h := .nil)))) ?_)
     refine CN (SO (v := .agg #[.int .u8 _, .int .u32 _, str _]) hst ty71 rfl rfl (.here) fun w hst => ?_)
     refine AI rfl <| AI rfl <| NL <| run_ret3 Try.func50 rfl (RV.cellA (vs := [.int .u8 _, .int .u32 _, str _]) rfl ty71 rfl rfl (cells_of_obj (n := 3) (hst.objL (.head _)) _ rfl)) (TP (v := .int .i64 _) rfl) (TP (v := .int .i64 _) rfl) ?_
     have hE := argQ_one (c := c) (ws := l) (bound := bound) (by omega) (by omega) (by rw [hkd]; omega) (fun h => absurd h.2 (of_decide_eq_false g5)) (fun h => by have hg := g7; rw [ho] at h; rw [h.2] at hg; cases hg)
     rw [hE, hkd]
     exact ⟨rfl, hst.pure⟩
   refine OM (t := 57) rfl (congrArg Value.bool (decide_eq_false g6)) rfl <| OM (t := 57) rfl (congrArg Value.bool (decide_eq_false g6)) rfl <| CN <| Op1.pickF (u := .bool _) (congrArg Value.bool (decide_eq_false g6)) rfl <| NL <| run_cond_false (congrArg Value.bool (rfl : false = _)) <| run_skip <| SR <| MC rfl <| ML rfl <| CN <| Op1.indexRs ty43 ty23 (hst.hD _ (.head _)) rfl rfl (by omega) (by omega) <| CN <| Op1.load1 (v := .int .u32 _) ty23 rfl rfl (Res.rs2_cell (hst.hD _ (.head _)) (flat_cell0 (g := u32C) (d := 0) u32C_len rfl (by omega))) <| CN (Op1.buildStruct ty71 stf71 (.c (v := .int .u8 _) rfl (h := (.c (v := .int .u32 _) rfl (h := .nil)))) ?_)
   refine CN (SO (v := .agg #[.int .u8 _, .int .u32 _, str _]) hst ty71 rfl rfl (.here) fun w hst => ?_)
   refine AI rfl <| AI rfl <| NL <| run_ret3 Try.func50 rfl (RV.cellA (vs := [.int .u8 _, .int .u32 _, str _]) rfl ty71 rfl rfl (cells_of_obj (n := 3) (hst.objL (.head _)) _ rfl)) (TP (v := .int .i64 _) rfl) (TP (v := .int .i64 _) rfl) ?_
   have hE := argQ_one (c := c) (ws := l) (bound := bound) (by omega) (by omega) (by rw [hkd]; omega) (fun h => absurd h.2 (of_decide_eq_false g5)) (fun h => absurd (hkd.symm.trans h.1) (by omega))
   rw [hE, hkd]
   exact ⟨rfl, hst.pure⟩
 refine OM (t := 39) rfl (congrArg Value.bool (decide_eq_false g4)) rfl <| OM (t := 39) rfl (congrArg Value.bool (decide_eq_false g4)) rfl <| OM (t := 39) rfl (congrArg Value.bool (decide_eq_false g4)) rfl <| OM (t := 39) rfl (congrArg Value.bool (decide_eq_false g4)) rfl <| OM (t := 39) rfl (congrArg Value.bool (decide_eq_false g4)) rfl <| CN <| Op1.pickF (u := .bool _) (congrArg Value.bool (decide_eq_false g4)) rfl <| NL <| Run.forget [(0, .int .u8 _), (1, .slice _ _ _), (6, .pointer (some ⟨_, _, none⟩)), (9, .int .u8 _), (45, .bool _)] ⟨rfl, rfl, rfl, rfl, rfl, trivial⟩ fun f => run_cond_false (congrArg Value.bool (rfl : false = _)) <| run_skip <| SR <| MC rfl <| ML rfl <| CN (Op1.indexRs ty43 ty23 (hst.hD _ (.head _)) rfl rfl (by omega) (by omega) ?_)
 refine CN <| Op1.load1 (v := .int .u32 _) ty23 rfl rfl (Res.rs2_cell (hst.hD _ (.head _)) (flat_cell0 (g := u32C) (d := 0) u32C_len rfl (by omega))) <| CN <| Op1.call2 (v1 := .int .u8 _) (v2 := .int .u32 _) ent81 rfl rfl rfl <| Ret.det (R3ref_Enum2 ho _) hst fun w hst => CN <| Op1.move (v := .tuple #[str _, .bool _]) rfl <| CN <| Op1.extract (v := str _) rfl rfl <| CN <| Op1.extract (v := .bool _) rfl rfl <| AS rfl <| AB rfl <| NL <| SQ <| SR <| MC rfl <| CN <| Op1.eql rfl rfl <| MB rfl <| RunL.splitD (d := 57) rfl (fun g8 => ?_) (fun g8 => ?_)
 · skip
   refine TK (t := 57) rfl (congrArg Value.bool (decide_eq_true g8)) <| Op1.move (v := .bool _) rfl <| TK (t := 57) rfl (congrArg Value.bool (decide_eq_true g8)) <| Op1.not rfl <| CN <| Op1.pickT (u := .bool _) (congrArg Value.bool (decide_eq_true g8)) rfl <| NL <| run_cond_split rfl (fun g9 => ?_) (fun g9 => ?_)
   · skip
     refine SR <| CN (Op1.buildStruct ty71 stf71 .nil ?_)
     refine CN (SO (v := .agg #[.int .u8 _, .int .u32 _, str _]) hst ty71 rfl rfl (.here) fun w hst => ?_)
     refine AI rfl <| AI rfl <| NL <| run_ret3 Try.func50 rfl (RV.cellA (vs := [.int .u8 _, .int .u32 _, str _]) rfl ty71 rfl rfl (cells_of_obj (n := 3) (hst.objL (.head _)) _ rfl)) (TP (v := .int .i64 _) rfl) (TP (v := .int .i64 _) rfl) ?_
     have hE := argQ_enum (c := c) (ws := l) (bound := bound) (by omega) (by omega) (hkd.trans (by omega)) (by rw [ho]; simpa using g9)
     rw [hE]
     exact ⟨rfl, hst.pure⟩
   refine run_skip <| SR <| MC rfl <| ML rfl <| CN <| Op1.indexRs ty43 ty23 (hst.hD _ (.head _)) rfl rfl (by omega) (by omega) <| CN <| Op1.load1 (v := .int .u32 _) ty23 rfl rfl (Res.rs2_cell (hst.hD _ (.head _)) (flat_cell0 (g := u32C) (d := 0) u32C_len rfl (by omega))) <| CN (Op1.buildStruct ty71 stf71 (.c (v := .int .u8 _) rfl (h := (.c (v := .int .u32 _) rfl (h := .nil)))) ?_)
   refine CN (SO (v := .agg #[.int .u8 _, .int .u32 _, str _]) hst ty71 rfl rfl (.here) fun w hst => ?_)
   refine AI rfl <| AI rfl <| NL <| run_ret3 Try.func50 rfl (RV.cellA (vs := [.int .u8 _, .int .u32 _, str _]) rfl ty71 rfl rfl (cells_of_obj (n := 3) (hst.objL (.head _)) _ rfl)) (TP (v := .int .i64 _) rfl) (TP (v := .int .i64 _) rfl) ?_
   have hE := argQ_one (c := c) (ws := l) (bound := bound) (by omega) (by omega) (by rw [hkd]; omega) (fun h => absurd (hkd.symm.trans h.1) (by omega)) (fun h => by have hg := g9; rw [ho] at h; rw [h.2] at hg; cases hg)
   rw [hE, hkd]
   exact ⟨rfl, hst.pure⟩
 refine OM (t := 57) rfl (congrArg Value.bool (decide_eq_false g8)) rfl <| OM (t := 57) rfl (congrArg Value.bool (decide_eq_false g8)) rfl <| CN <| Op1.pickF (u := .bool _) (congrArg Value.bool (decide_eq_false g8)) rfl <| NL <| run_cond_false (congrArg Value.bool (rfl : false = _)) <| run_skip <| SR <| MC rfl <| ML rfl <| CN <| Op1.indexRs ty43 ty23 (hst.hD _ (.head _)) rfl rfl (by omega) (by omega) <| CN <| Op1.load1 (v := .int .u32 _) ty23 rfl rfl (Res.rs2_cell (hst.hD _ (.head _)) (flat_cell0 (g := u32C) (d := 0) u32C_len rfl (by omega))) <| CN (Op1.buildStruct ty71 stf71 (.c (v := .int .u8 _) rfl (h := (.c (v := .int .u32 _) rfl (h := .nil)))) ?_)
 refine CN (SO (v := .agg #[.int .u8 _, .int .u32 _, str _]) hst ty71 rfl rfl (.here) fun w hst => ?_)
 refine AI rfl <| AI rfl <| NL <| run_ret3 Try.func50 rfl (RV.cellA (vs := [.int .u8 _, .int .u32 _, str _]) rfl ty71 rfl rfl (cells_of_obj (n := 3) (hst.objL (.head _)) _ rfl)) (TP (v := .int .i64 _) rfl) (TP (v := .int .i64 _) rfl) ?_
 have hE := argQ_one (c := c) (ws := l) (bound := bound) (by omega) (by omega) (by rw [hkd]; omega) (fun h => absurd (hkd.symm.trans h.1) (by omega)) (fun h => absurd (hkd.symm.trans h.1) (by omega))
 rw [hE, hkd]
 exact ⟨rfl, hst.pure⟩
theorem R3ref4_Heads (fm : FormL) (l : List Int) (ao : Option Addr) (cp : Nat) (bound : Int) (w : World) (hA : (Res.rs ao l.length 1 (l.flatMap u32C)).holds w) (hl : l.length ≤ 35184372088832) : Ret Try.prog 49 #[.agg #[.int .u16 fm.op, str fm.name, .bool fm.ty, .bool fm.res, str fm.fixed, str fm.rest, .int .i64 fm.most, .int .u8 fm.part], .slice ao l.length cp, .int .u32 bound] w (fun v w' => v = .tuple #[.int .i64 ((headsF fm l bound).1 : Int), .int .i64 (headsF fm l bound).2] ∧ St w NoM [] [] w') := by
 refine Ret.enter (args := [.agg #[.int .u16 fm.op, str fm.name, .bool fm.ty, .bool fm.res, str fm.fixed, str fm.rest, .int .i64 fm.most, .int .u8 fm.part], .slice ao l.length cp, .int .u32 bound]) Try.func49 rfl rfl rfl ?_
 have hst : St w NoM [] [Res.rs ao l.length 1 (l.flatMap u32C)] w := St.init_D hA
 clear hA
 refine SR <| CN <| Op1.box (v := .agg #[.int .u16 _, str _, .bool _, .bool _, str _, str _, .int .i64 _, .int .u8 _]) hst rfl rfl fun w b3 hst => AI rfl <| AI rfl <| NSR <| AI rfl <| NL <| SQ <| SR <| CN <| Op1.fieldAddr fld80_2 rfl <| CN (Op1.load1 (v := .bool _) ty4 rfl rfl (hst.cellL (.head _) rfl) ?_)
 refine NL <| run_cond_split rfl (fun g1 => ?_) (fun g1 => ?_)
 · skip
   refine SQ <| SR <| ML rfl <| CN <| Op1.lenSl (rest := []) ty43 rfl <| CN <| Op1.eql rfl rfl <| NL <| run_cond_dec rfl (fun g2 => ?_) (fun g2 => ?_)
   · skip
     refine SR <| AI rfl <| AI rfl <| NL <| run_ret2 Try.func49 rfl (TP (v := .int .i64 _) rfl) (TP (v := .int .i64 _) rfl) ?_
     have ht : fm.ty = true := by simpa using g1
     have hb : b2n fm.ty = 1 := by rw [b2n, ht]; rfl
     unfold headsF
     rw [if_pos ⟨ht, by omega⟩]
     exact ⟨rfl, hst.pure⟩
   refine run_skip <| SQ <| SR <| ML rfl <| CN <| Op1.indexRs ty43 ty23 (hst.hD _ (.head _)) rfl rfl (by omega) (by omega) <| CN <| Op1.load1 (v := .int .u32 _) ty23 rfl rfl (Res.rs2_cell (hst.hD _ (.head _)) (flat_cell0 (g := u32C) (d := 0) u32C_len rfl (by omega))) <| MU rfl <| CN <| Op1.call2 (v1 := .int .u32 _) (v2 := .int .u32 _) ent78 rfl rfl rfl <| Ret.det (R3ref4_None _ _ _) hst fun w hst => NL <| run_cond_split rfl (fun g3 => ?_) (fun g3 => ?_)
   · skip
     refine SR <| AI rfl <| AI rfl <| NL <| run_ret2 Try.func49 rfl (TP (v := .int .i64 _) rfl) (TP (v := .int .i64 _) rfl) ?_
     have ht : fm.ty = true := by simpa using g1
     have hb : b2n fm.ty = 1 := by rw [b2n, ht]; rfl
     unfold headsF
     rw [if_neg (fun h => by omega), if_pos ⟨ht, idE_ne.2 (by simpa using g3)⟩]
     exact ⟨rfl, hst.pure⟩
   refine run_skip <| RG <| AI rfl <| NL <| SQ <| SR <| CN <| Op1.fieldAddr fld80_3 rfl <| CN <| Op1.load1 (v := .bool _) ty4 rfl rfl (hst.cellL (.head _) rfl) <| NL <| run_cond_split rfl (fun g4 => ?_) (fun g4 => ?_)
   · skip
     refine SQ <| SR <| ML rfl <| CN <| Op1.lenSl (rest := []) ty43 rfl <| MI rfl <| CN <| Op1.eql rfl rfl <| NL <| Run.forget [(1, .slice _ _ _), (2, .int .u32 _), (8, .int .i64 _), (24, .bool _)] ⟨rfl, rfl, rfl, rfl, trivial⟩ fun f => run_cond_dec rfl (fun g5 => ?_) (fun g5 => ?_)
     · skip
       refine SR <| AI rfl <| AI rfl <| NL <| run_ret2 Try.func49 rfl (TP (v := .int .i64 _) rfl) (TP (v := .int .i64 _) rfl) ?_
       have ht : fm.ty = true := by simpa using g1
       have hb : b2n fm.ty = 1 := by rw [b2n, ht]; rfl
       have hr : fm.res = true := by simpa using g4
       have hb2 : b2n fm.res = 1 := by rw [b2n, hr]; rfl
       unfold headsF
       rw [if_neg (fun h => by omega), if_neg (fun h => absurd (idE_ne.1 h.2) (of_decide_eq_false g3)), if_pos ⟨hr, by omega⟩]
       exact ⟨rfl, hst.pure⟩
     refine run_skip <| SQ <| SR <| ML rfl <| MI rfl <| CN <| Op1.indexRs ty43 ty23 (hst.hD _ (.head _)) rfl rfl (by omega) (by omega) <| CN <| Op1.load1 (v := .int .u32 _) ty23 rfl rfl (Res.rs2_cell (hst.hD _ (.head _)) (flat_cell0 (g := u32C) (d := 0) u32C_len rfl (by omega))) <| MU rfl <| CN <| Op1.call2 (v1 := .int .u32 _) (v2 := .int .u32 _) ent78 rfl rfl rfl <| Ret.det (R3ref4_None _ _ _) hst fun w hst => NL <| run_cond_split rfl (fun g6 => ?_) (fun g6 => ?_)
     · skip
       refine SR <| AI rfl <| AI rfl <| NL <| run_ret2 Try.func49 rfl (TP (v := .int .i64 _) rfl) (TP (v := .int .i64 _) rfl) ?_
       have ht : fm.ty = true := by simpa using g1
       have hb : b2n fm.ty = 1 := by rw [b2n, ht]; rfl
       have hr : fm.res = true := by simpa using g4
       have hb2 : b2n fm.res = 1 := by rw [b2n, hr]; rfl
       unfold headsF
       rw [if_neg (fun h => by omega), if_neg (fun h => absurd (idE_ne.1 h.2) (of_decide_eq_false g3)), if_neg (fun h => by omega), if_pos ⟨hr, by rw [hb]; exact idE_ne.2 (by simpa using g6)⟩]
       exact ⟨rfl, hst.pure⟩
     refine run_skip <| RG <| MI rfl <| CN <| Op1.addN rfl rfl rfl (wrap_i64 (by omega) (by omega)) <| AI rfl <| NSR <| MI rfl <| AI rfl <| AI rfl <| NL <| run_ret2 Try.func49 rfl (TP (v := .int .i64 _) rfl) (TP (v := .int .i64 _) rfl) ?_
     have ht : fm.ty = true := by simpa using g1
     have hb : b2n fm.ty = 1 := by rw [b2n, ht]; rfl
     have hr : fm.res = true := by simpa using g4
     have hb2 : b2n fm.res = 1 := by rw [b2n, hr]; rfl
     unfold headsF
     rw [if_neg (fun h => by omega), if_neg (fun h => absurd (idE_ne.1 h.2) (of_decide_eq_false g3)), if_neg (fun h => by omega), if_neg (fun h => by have h2 := h.2; rw [hb] at h2; exact absurd (idE_ne.1 h2) (of_decide_eq_false g6)), hb, hb2]
     exact ⟨rfl, hst.pure⟩
   refine run_skip <| SR <| MI rfl <| AI rfl <| AI rfl <| NL <| run_ret2 Try.func49 rfl (TP (v := .int .i64 _) rfl) (TP (v := .int .i64 _) rfl) ?_
   have ht : fm.ty = true := by simpa using g1
   have hb : b2n fm.ty = 1 := by rw [b2n, ht]; rfl
   have hr : fm.res = false := by simpa using g4
   have hb2 : b2n fm.res = 0 := by rw [b2n, hr]; rfl
   unfold headsF
   rw [if_neg (fun h => by omega), if_neg (fun h => absurd (idE_ne.1 h.2) (of_decide_eq_false g3)), if_neg (fun h => by rw [hr] at h; cases h.1), if_neg (fun h => by rw [hr] at h; cases h.1), hb, hb2]
   exact ⟨rfl, hst.pure⟩
 refine run_skip <| SQ <| SR <| CN <| Op1.fieldAddr fld80_3 rfl <| CN <| Op1.load1 (v := .bool _) ty4 rfl rfl (hst.cellL (.head _) rfl) <| NL <| run_cond_split rfl (fun g7 => ?_) (fun g7 => ?_)
 · skip
   refine SQ <| SR <| ML rfl <| CN <| Op1.lenSl (rest := []) ty43 rfl <| MI rfl <| CN <| Op1.eql rfl rfl <| NL <| run_cond_dec rfl (fun g8 => ?_) (fun g8 => ?_)
   · skip
     refine SR <| AI rfl <| AI rfl <| NL <| run_ret2 Try.func49 rfl (TP (v := .int .i64 _) rfl) (TP (v := .int .i64 _) rfl) ?_
     have ht : fm.ty = false := by simpa using g1
     have hb : b2n fm.ty = 0 := by rw [b2n, ht]; rfl
     have hr : fm.res = true := by simpa using g7
     have hb2 : b2n fm.res = 1 := by rw [b2n, hr]; rfl
     unfold headsF
     rw [if_neg (fun h => by rw [ht] at h; cases h.1), if_neg (fun h => by rw [ht] at h; cases h.1), if_pos ⟨hr, by omega⟩]
     exact ⟨rfl, hst.pure⟩
   refine run_skip <| SQ <| SR <| ML rfl <| MI rfl <| CN <| Op1.indexRs ty43 ty23 (hst.hD _ (.head _)) rfl rfl (by omega) (by omega) <| CN <| Op1.load1 (v := .int .u32 _) ty23 rfl rfl (Res.rs2_cell (hst.hD _ (.head _)) (flat_cell0 (g := u32C) (d := 0) u32C_len rfl (by omega))) <| MU rfl <| CN <| Op1.call2 (v1 := .int .u32 _) (v2 := .int .u32 _) ent78 rfl rfl rfl <| Ret.det (R3ref4_None _ _ _) hst fun w hst => NL <| run_cond_split rfl (fun g9 => ?_) (fun g9 => ?_)
   · skip
     refine SR <| AI rfl <| AI rfl <| NL <| run_ret2 Try.func49 rfl (TP (v := .int .i64 _) rfl) (TP (v := .int .i64 _) rfl) ?_
     have ht : fm.ty = false := by simpa using g1
     have hb : b2n fm.ty = 0 := by rw [b2n, ht]; rfl
     have hr : fm.res = true := by simpa using g7
     have hb2 : b2n fm.res = 1 := by rw [b2n, hr]; rfl
     unfold headsF
     rw [if_neg (fun h => by rw [ht] at h; cases h.1), if_neg (fun h => by rw [ht] at h; cases h.1), if_neg (fun h => by omega), if_pos ⟨hr, by rw [hb]; exact idE_ne.2 (by simpa using g9)⟩]
     exact ⟨rfl, hst.pure⟩
   refine run_skip <| RG <| MI rfl <| CN <| Op1.addN rfl rfl rfl (wrap_i64 (by omega) (by omega)) <| AI rfl <| NL <| Run.forget [(8, .int .i64 _)] ⟨rfl, trivial⟩ fun f => SR <| MI rfl <| AI rfl <| AI rfl <| NL <| run_ret2 Try.func49 rfl (TP (v := .int .i64 _) rfl) (TP (v := .int .i64 _) rfl) ?_
   have ht : fm.ty = false := by simpa using g1
   have hb : b2n fm.ty = 0 := by rw [b2n, ht]; rfl
   have hr : fm.res = true := by simpa using g7
   have hb2 : b2n fm.res = 1 := by rw [b2n, hr]; rfl
   unfold headsF
   rw [if_neg (fun h => by rw [ht] at h; cases h.1), if_neg (fun h => by rw [ht] at h; cases h.1), if_neg (fun h => by omega), if_neg (fun h => by have h2 := h.2; rw [hb] at h2; exact absurd (idE_ne.1 h2) (of_decide_eq_false g9)), hb, hb2]
   exact ⟨rfl, hst.pure⟩
 refine run_skip <| SR <| MI rfl <| AI rfl <| AI rfl <| NL <| run_ret2 Try.func49 rfl (TP (v := .int .i64 _) rfl) (TP (v := .int .i64 _) rfl) ?_
 have ht : fm.ty = false := by simpa using g1
 have hb : b2n fm.ty = 0 := by rw [b2n, ht]; rfl
 have hr : fm.res = false := by simpa using g7
 have hb2 : b2n fm.res = 0 := by rw [b2n, hr]; rfl
 unfold headsF
 rw [if_neg (fun h => by rw [ht] at h; cases h.1), if_neg (fun h => by rw [ht] at h; cases h.1), if_neg (fun h => by rw [hr] at h; cases h.1), if_neg (fun h => by rw [hr] at h; cases h.1), hb, hb2]
 exact ⟨rfl, hst.pure⟩
end Go.SK
namespace Go.SK
open Go Go.Proofs
theorem ent49 : Enters Try.prog 49 := ⟨Try.f49, _, Try.func49, by kernel_rfl, rfl⟩
theorem ent50 : Enters Try.prog 50 := ⟨Try.f50, _, Try.func50, by kernel_rfl, rfl⟩
end Go.SK
namespace Go.SK
open Go Go.Proofs
open Go.RowKit
theorem R3ref4_Argument2 {c bound : Int} {l : List Int} {ao : Option Addr} {n m : Nat} {xs : List Value} {x : ArgP} {e : Int} (hq : argQ c l bound = (x, m, e)) (h0 : 0 ≤ c) (h1 : c ≤ 255) (hw : Wd l) (hn : n = l.length) (hx : xs = l.flatMap u32C) (cp : Nat) (w : World) (hA : (Res.rs ao n 1 xs).holds w) (hl : n ≤ 35184372088832) : Ret Try.prog 50 #[.int .u8 c, .slice ao n cp, .int .u32 bound] w (fun v w' => v = .tuple #[.agg #[.int .u8 x.kind, .int .u32 x.n, str x.s], .int .i64 (m : Int), .int .i64 e] ∧ St w NoM [] [] w') := by
 subst hn; subst hx
 exact (R3ref4_Argument c h0 h1 l hw ao cp bound w hA hl).mono fun v w' h => ⟨h.1.trans (by rw [hq]), h.2⟩
theorem R3ref4_Heads2 {fm : FormL} {l : List Int} {bound : Int} {hn : Nat} {he : Int} (hh : headsF fm l bound = (hn, he)) (ao : Option Addr) (cp : Nat) (w : World) (hA : (Res.rs ao l.length 1 (l.flatMap u32C)).holds w) (hl : l.length ≤ 35184372088832) : Ret Try.prog 49 #[.agg #[.int .u16 fm.op, str fm.name, .bool fm.ty, .bool fm.res, str fm.fixed, str fm.rest, .int .i64 fm.most, .int .u8 fm.part], .slice ao l.length cp, .int .u32 bound] w (fun v w' => v = .tuple #[.int .i64 (hn : Int), .int .i64 he] ∧ St w NoM [] [] w') :=
 (R3ref4_Heads fm l ao cp bound w hA hl).mono fun v w' h => ⟨h.1.trans (by rw [hh]), h.2⟩
theorem R3ref4_Inst (op : Int) (l : List Int) (hw : Wd l) (ao : Option Addr) (cp : Nat) (hcp : l.length ≤ cp) (bound : Int) (h0 : 0 ≤ op) (w : World) (hA : (Res.rs ao l.length 1 (l.flatMap u32C)).holds w) (hl : l.length ≤ 35184372088832) : Ret Try.prog 24 #[.agg #[.int .u16 op, .slice ao l.length cp], .int .u32 bound] w (fun v w' => ∃ ro rc, v = .tuple #[.agg #[.int .u16 (instF bound op l).1.op, .int .u32 (instF bound op l).1.ty, .int .u32 (instF bound op l).1.res, .slice ro (instF bound op l).1.args.length rc], .int .i64 (instF bound op l).2] ∧ St w NoM [Res.sl ro (instF bound op l).1.args.length rc 71 3 ((instF bound op l).1.args.flatMap argC)] [] w') := by
 refine Ret.enter (args := [.agg #[.int .u16 op, .slice ao l.length cp], .int .u32 bound]) Try.func24 rfl rfl rfl ?_
 have hst : St w NoM [] [Res.rs ao l.length 1 (l.flatMap u32C)] w := St.init_D hA
 clear hA
 obtain ⟨fm, hfm⟩ : ∃ fm, refD op = fm := ⟨_, rfl⟩
 obtain ⟨ob, hob⟩ : ∃ ob, (refS op).isSome = ob := ⟨_, rfl⟩
 have hf : FOk fm := hfm ▸ refD_fok op
 have hfx := hf.fixed
 obtain ⟨hn, he, hh⟩ : ∃ (hn : Nat) (he : Int), headsF fm l bound = (hn, he) := ⟨_, _, rfl⟩
 refine SR <| CN <| Op1.box (v := .agg #[.int .u16 _, .slice _ _ _]) hst rfl rfl fun w b2 hst => CN <| Op1.alloc hst ty48 fun w b4 hst => AI rfl <| NL <| SQ <| SR <| CN <| Op1.fieldAddr fld45_1 rfl <| CN <| Op1.load1 (v := .slice _ _ _) ty43 rfl rfl (hst.cellL (.tail _ (.head _)) rfl) <| CN <| Op1.lenSl (rest := []) ty43 rfl <| CN <| Op1.geq rfl rfl <| NL <| run_cond_dec rfl (fun g1 => ?_) (fun g1 => ?_)
 · skip
   refine SR <| CN (Op1.buildStruct ty48 stf48 .nil ?_)
   refine CN (SO (v := .agg #[.int .u16 _, .int .u32 _, .int .u32 _, .slice _ _ _]) hst ty48 rfl rfl (.here) fun w hst => ?_)
   refine AI rfl <| NL <| run_ret2 Try.func24 rfl (RV.cellA (vs := [.int .u16 _, .int .u32 _, .int .u32 _, .slice _ _ _]) rfl ty48 rfl rfl (cells_of_obj (n := 4) (hst.objL (.head _)) _ rfl)) (TP (v := .int .i64 _) rfl) ?_
   replace hst := hst.pick .nil
   have hI := instF_count (op := op) (bound := bound) (l := l) (by omega)
   rw [hI]
   exact ⟨none, 0, rfl, (hst.pushNil 71 3).noD⟩
 refine run_skip <| SR <| CN <| Op1.fieldAddr fld45_0 rfl <| CN <| Op1.load1 (v := .int .u16 _) ty42 rfl rfl (hst.cellL (.tail _ (.head _)) rfl) <| CN <| Op1.call1 (v1 := .int .u16 _) ent48 rfl rfl <| Ret.det (R3ref_Of2 hfm hob _) hst fun w hst => CN <| Op1.move (v := .tuple #[.agg #[.int .u16 _, str _, .bool _, .bool _, str _, str _, .int .i64 _, .int .u8 _], .bool _]) rfl <| CN <| Op1.extract (v := .agg #[.int .u16 _, str _, .bool _, .bool _, str _, str _, .int .i64 _, .int .u8 _]) rfl rfl <| CN <| Op1.extract (v := .bool _) rfl rfl <| CN <| Op1.alloc hst ty80 fun w b6 hst => CN (SO (v := .agg #[.int .u16 _, str _, .bool _, .bool _, str _, str _, .int .i64 _, .int .u8 _]) hst ty80 rfl rfl (.here) fun w hst => ?_)
 refine AB rfl <| NL <| SQ <| SR <| MB rfl <| CN <| Op1.not rfl <| NL <| run_cond_split rfl (fun g2 => ?_) (fun g2 => ?_)
 · skip
   refine SR <| CN (Op1.buildStruct ty48 stf48 .nil ?_)
   refine CN (SO (v := .agg #[.int .u16 _, .int .u32 _, .int .u32 _, .slice _ _ _]) hst ty48 rfl rfl (.there (.here)) fun w hst => ?_)
   refine AI rfl <| NL <| run_ret2 Try.func24 rfl (RV.cellA (vs := [.int .u16 _, .int .u32 _, .int .u32 _, .slice _ _ _]) rfl ty48 rfl rfl (cells_of_obj (n := 4) (hst.objL (.tail _ (.head _))) _ rfl)) (TP (v := .int .i64 _) rfl) ?_
   replace hst := hst.pick .nil
   have hI := instF_op (op := op) (bound := bound) (l := l) (by omega) (by rw [hob]; simpa using g2)
   rw [hI]
   exact ⟨none, 0, rfl, (hst.pushNil 71 3).noD⟩
 have hisS : (refS op).isSome = true := by rw [hob]; simpa using g2
 refine run_skip <| SR <| CN <| Op1.loadA (vs := [.int .u16 _, str _, .bool _, .bool _, str _, str _, .int .i64 _, .int .u8 _]) ty80 rfl rfl rfl (cells_of_obj (n := 8) (hst.objL (.head _)) _ rfl) <| CN <| Op1.fieldAddr fld45_1 rfl <| CN <| Op1.load1 (v := .slice _ _ _) ty43 rfl rfl (hst.cellL (.tail _ (.tail _ (.head _))) rfl) <| MU rfl <| CN <| Op1.call3 (v1 := .agg #[.int .u16 _, str _, .bool _, .bool _, str _, str _, .int .i64 _, .int .u8 _]) (v2 := .slice _ _ _) (v3 := .int .u32 _) ent49 rfl rfl rfl rfl <| Ret.det (R3ref4_Heads2 hh _ _ _ (hst.hD _ (.head _)) hl) hst fun w hst => CN <| Op1.move (v := .tuple #[.int .i64 _, .int .i64 _]) rfl <| CN <| Op1.extract (v := .int .i64 _) rfl rfl <| CN <| Op1.extract (v := .int .i64 _) rfl rfl <| AI rfl <| AI rfl <| NL <| Run.forget [(1, .int .u32 _), (2, .pointer (some ⟨_, _, none⟩)), (4, .pointer (some ⟨_, _, none⟩)), (6, .pointer (some ⟨_, _, none⟩)), (8, .int .i64 _), (9, .int .i64 _)] ⟨rfl, rfl, rfl, rfl, rfl, rfl, trivial⟩ (fun f => ?_)
 refine SQ <| SR <| MI rfl <| CN <| Op1.neq rfl rfl <| NL <| run_cond_dec rfl (fun g3 => ?_) (fun g3 => ?_)
 · skip
   refine SR <| CN (Op1.buildStruct ty48 stf48 .nil ?_)
   refine MI rfl <| CN (SO (v := .agg #[.int .u16 _, .int .u32 _, .int .u32 _, .slice _ _ _]) hst ty48 rfl rfl (.there (.here)) fun w hst => ?_)
   refine AI rfl <| NL <| run_ret2 Try.func24 rfl (RV.cellA (vs := [.int .u16 _, .int .u32 _, .int .u32 _, .slice _ _ _]) rfl ty48 rfl rfl (cells_of_obj (n := 4) (hst.objL (.tail _ (.head _))) _ rfl)) (TP (v := .int .i64 _) rfl) ?_
   replace hst := hst.pick .nil
   have hhe : (headsF fm l bound).2 = he := by rw [hh]
   have hI := instF_err (op := op) (bound := bound) (l := l) (e := he) (by omega) hisS (by rw [hfm, instS_head (by rw [hhe]; exact g3), hhe]) g3
   rw [hI]
   exact ⟨none, 0, rfl, (hst.pushNil 71 3).noD⟩
 have he0 : he = 0 := by omega
 have hhe : (headsF fm l bound).2 = 0 := by rw [hh]; exact he0
 have hle := heads_le hhe
 have hn1 := heads_one hhe
 rw [hh] at hn1
 dsimp only at hn1
 refine run_skip <| SQ ?_
 replace hst := hst.pushNil 71 3
 replace hst : St _ _ (Res.sl none 0 0 71 3 ([].flatMap argC) :: _) _ _ := hst
 refine RG <| CN <| Op1.fieldAddr fld45_0 rfl <| CN <| Op1.load1 (v := .int .u16 _) ty42 rfl rfl (hst.cellL (.tail _ (.tail _ (.tail _ (.head _)))) rfl) <| CN (Op1.buildStruct ty48 stf48 (.c (v := .int .u16 _) rfl (h := .nil)) ?_)
 refine CN <| Op1.alloc hst ty48 fun w b10 hst => CN (SO (v := .agg #[.int .u16 _, .int .u32 _, .int .u32 _, .slice _ _ _]) hst ty48 rfl rfl (.here) fun w hst => ?_)
 refine NL <| SQ <| Run.cutW (L1 := [_]) [(1, .int .u32 _), (2, .pointer (some ⟨_, _, none⟩)), (4, .pointer (some ⟨_, _, none⟩)), (6, .pointer (some ⟨_, _, none⟩)), (8, .int .i64 _), (10, .pointer (some ⟨_, _, none⟩))] hst ⟨rfl, rfl, rfl, rfl, rfl, rfl, trivial⟩ (fun (q : Int) => []) (fun (q : Int) => [Res.row b10 48 [.int .u16 op, .int .u32 q, .int .u32 0, .slice none 0 0]]) (fun (q : Int) => q = (if fm.ty = true then l.getD 0 0 else 0)) (fun ty1 f w hst hJ1 => ?_) (fun cut4 => ?_)
 replace hst : St _ _ ([Res.row b10 48 [.int .u16 op, .int .u32 ty1, .int .u32 0, .slice none 0 0]] ++ [_, _, _, _]) _ _ := hst
 replace hJ1 : ty1 = (if fm.ty = true then l.getD 0 0 else 0) := hJ1
 skip
 · skip
   refine SQ <| Run.cutW (L1 := [_]) [(1, .int .u32 _), (2, .pointer (some ⟨_, _, none⟩)), (4, .pointer (some ⟨_, _, none⟩)), (6, .pointer (some ⟨_, _, none⟩)), (8, .int .i64 _), (10, .pointer (some ⟨_, _, none⟩))] hst ⟨rfl, rfl, rfl, rfl, rfl, rfl, trivial⟩ (fun (q : Int) => []) (fun (q : Int) => [Res.row b10 48 [.int .u16 op, .int .u32 ty1, .int .u32 q, .slice none 0 0]]) (fun (q : Int) => q = (if fm.res = true then l.getD (b2n fm.ty) 0 else 0)) (fun res1 f w hst hJ2 => ?_) (fun cut6 => ?_)
   replace hst : St _ _ ([Res.row b10 48 [.int .u16 op, .int .u32 ty1, .int .u32 res1, .slice none 0 0]] ++ [_, _, _, _]) _ _ := hst
   replace hJ2 : res1 = (if fm.res = true then l.getD (b2n fm.ty) 0 else 0) := hJ2
   skip
   · skip
     refine SQ <| run_block <| run_loop <| Run.indW [(1, .int .u32 _), (2, .pointer (some ⟨_, _, none⟩)), (4, .pointer (some ⟨_, _, none⟩)), (6, .pointer (some ⟨_, _, none⟩)), (10, .pointer (some ⟨_, _, none⟩))] ⟨rfl, rfl, rfl, rfl, rfl, trivial⟩ (fun (q : Nat × Option Addr × Nat × List ArgP) => [(8, .int .i64 (q.1 : Int))]) (fun (q : Nat × Option Addr × Nat × List ArgP) => [Res.row b10 48 [.int .u16 op, .int .u32 ty1, .int .u32 res1, .slice q.2.1 q.2.2.2.length q.2.2.1], Res.sl q.2.1 q.2.2.2.length q.2.2.1 71 3 (q.2.2.2.flatMap argC)]) (fun (q : Nat × Option Addr × Nat × List ArgP) => A1 fm l bound q.1 0 q.2.2.2) (fun (q : Nat × Option Addr × Nat × List ArgP) => l.length - q.1) ((hn, none, 0, [])) hst (hn1 ▸ A1.heads hhe) ⟨rfl, trivial⟩ ?_
     intro ⟨a, aa, ca, ags⟩ f w hst hK ih8
     replace hst : St _ _ ([Res.row b10 48 [.int .u16 op, .int .u32 ty1, .int .u32 res1, .slice aa ags.length ca], Res.sl aa ags.length ca 71 3 (ags.flatMap argC)] ++ [_, _, _]) _ _ := hst
     replace hK : A1 fm l bound a 0 ags := hK
     refine Run.slots (sl := [(8, .int .i64 (a : Int))]) ⟨rfl, trivial⟩ <| SQ <| SR <| MI rfl <| CN <| Op1.fieldAddr fld45_1 rfl <| CN <| Op1.load1 (v := .slice _ _ _) ty43 rfl rfl (hst.cellL (.tail _ (.tail _ (.tail _ (.tail _ (.head _))))) rfl) <| CN <| Op1.lenSl (rest := []) ty43 rfl <| CN <| Op1.lss rfl rfl <| MB rfl <| RunL.splitD (d := 64) rfl (fun g9 => ?_) (fun g9 => ?_)
     · skip
       refine OM (t := 64) rfl (congrArg Value.bool (decide_eq_true g9)) rfl <| OM (t := 64) rfl (congrArg Value.bool (decide_eq_true g9)) rfl <| OM (t := 64) rfl (congrArg Value.bool (decide_eq_true g9)) rfl <| OM (t := 64) rfl (congrArg Value.bool (decide_eq_true g9)) rfl <| OM (t := 64) rfl (congrArg Value.bool (decide_eq_true g9)) rfl <| OM (t := 64) rfl (congrArg Value.bool (decide_eq_true g9)) rfl <| OM (t := 64) rfl (congrArg Value.bool (decide_eq_true g9)) rfl <| CN <| Op1.pickT (u := .bool _) (congrArg Value.bool (decide_eq_true g9)) rfl <| NL ?_
       have hnl : ags.length ≤ 1000000 := by have := hK.2.1; have := hK.1; omega
       refine run_cond_true (congrArg Value.bool (rfl : true = _)) <| run_skip <| run_block <| SQ ?_
       obtain ⟨⟨x, m, e⟩, hq⟩ : ∃ q, argQ (letterS fm (ags.length : Int)) (l.drop a) bound = q := ⟨_, rfl⟩
       have hwd : Wd (l.drop a) := fun y hy => hw y (List.mem_of_mem_drop hy)
       have hgo : l.length - a > 0 ∨ ags.length < fm.fixed.length := by omega
       have hqe := argQ_E (c := letterS fm (ags.length : Int)) (ws := l.drop a) (bound := bound)
       rw [hq] at hqe
       dsimp only at hqe
       refine RunD.startT [(16, 17)] [] hst (bs := [0, 1, 0, 4, 12, 31, 0, 64, 0, 448, 0, 2047, 4095, 8191, 8191, 8191, 0, 81919, 229375, 524287]) (ds := [some 74, some 75, some 76, some 77, some 78, some 79, some 80, some 81, some 82, some 83, some 84, some 85, some 73, some 86, some 87, some 88, some 11, none, some 12, some 13]) ⟨by kernel_rfl, by kernel_rfl, by kernel_rfl⟩ (fun tab10 => ?_)
       refine RunD.op (det _) tab10 1 (fun f' L' w' hc => Op1.fieldAddr fld45_0 (hc.old (v := .pointer (some ⟨_, _, none⟩)) rfl rfl rfl) ⟨[], ⟨rfl, rfl⟩, hc.st⟩) <| RunD.op (det _) tab10 2 (fun f' L' w' hc => Op1.load1 (v := .int .u16 _) ty42 rfl (hc.det (j := 0) rfl rfl rfl rfl) (hc.st.cellL (List.mem_append_right _ (.tail _ (.tail _ (.tail _ (.tail _ (.head _)))))) rfl) ⟨[], ⟨rfl, rfl⟩, hc.st⟩) <| RunD.op (det _) tab10 3 (fun f' L' w' hc => Op1.fieldAddr fld48_3 (hc.old (v := .pointer (some ⟨_, _, none⟩)) rfl rfl rfl) ⟨[], ⟨rfl, rfl⟩, hc.st⟩) <| RunD.op (det _) tab10 4 (fun f' L' w' hc => Op1.load1 (v := .slice _ _ _) ty46 rfl (hc.det (j := 2) rfl rfl rfl rfl) (hc.st.cellL (List.mem_append_right _ (.head _)) rfl) ⟨[], ⟨rfl, rfl⟩, hc.st⟩) <| RunD.op (det _) tab10 5 (fun f' L' w' hc => Op1.lenSl (rest := []) ty46 (hc.det (j := 3) rfl rfl rfl rfl) ⟨[], ⟨rfl, rfl⟩, hc.st⟩) <| RunD.op (det _) tab10 6 (fun f' L' w' hc => Op1.call2 (v1 := .int .u16 _) (v2 := .int .i64 _) ent51 rfl (hc.det (j := 1) rfl rfl rfl rfl) (hc.det (j := 4) rfl rfl rfl rfl) ((R3ref_Letter2 h0 hfm _ (by omega) _).mono fun v w hp => ⟨[], ⟨hp.1, rfl⟩, hc.st.keepc hp.2⟩)) <| RunD.op (det _) tab10 7 (fun f' L' w' hc => Op1.fieldAddr fld45_1 (hc.old (v := .pointer (some ⟨_, _, none⟩)) rfl rfl rfl) ⟨[], ⟨rfl, rfl⟩, hc.st⟩) <| RunD.op (det _) tab10 8 (fun f' L' w' hc => Op1.load1 (v := .slice _ _ _) ty43 rfl (hc.det (j := 6) rfl rfl rfl rfl) (hc.st.cellL (List.mem_append_right _ (.tail _ (.tail _ (.tail _ (.tail _ (.head _)))))) rfl) ⟨[], ⟨rfl, rfl⟩, hc.st⟩) <| RunD.op (det _) tab10 9 (fun f' L' w' hc => Op1.move (v := .int .i64 _) (hc.old (v := .int .i64 _) rfl rfl rfl) ⟨[], ⟨rfl, rfl⟩, hc.st⟩) <| RunD.op (det _) tab10 10 (fun f' L' w' hc => Op1.sliceSlF (lo := a) (n := l.length) (cap := cp) ty43 ty23 (hc.det (j := 7) rfl rfl rfl rfl) (hc.det (j := 8) rfl rfl rfl rfl) rfl hK.1 ⟨[], ⟨rfl, rfl⟩, hc.st⟩) <| RunD.op (det _) tab10 11 (fun f' L' w' hc => Op1.move (v := .int .u32 _) (hc.old (v := .int .u32 _) rfl rfl rfl) ⟨[], ⟨rfl, rfl⟩, hc.st⟩) <| RunD.op (det _) tab10 12 (fun f' L' w' hc => Op1.call3 (v1 := .int .u8 _) (v2 := .slice _ _ _) (v3 := .int .u32 _) ent50 rfl (hc.det (j := 5) rfl rfl rfl rfl) (hc.det (j := 9) rfl rfl rfl rfl) (hc.det (j := 10) rfl rfl rfl rfl) ((R3ref4_Argument2 hq (letterS_bd fm _).1 (letterS_bd fm _).2 hwd (by rw [List.length_drop]) rfl _ _ (rs_from (hc.st.hD _ (.head _)) hK.1 hcp) (by omega)).mono fun v w hp => ⟨[], ⟨hp.1, rfl⟩, hc.st.keepc hp.2⟩)) <| RunD.op (det _) tab10 13 (fun f' L' w' hc => Op1.move (v := .tuple #[.agg #[.int .u8 _, .int .u32 _, str _], .int .i64 _, .int .i64 _]) (hc.det (j := 11) rfl rfl rfl rfl) ⟨[], ⟨rfl, rfl⟩, hc.st⟩) <| RunD.op (det _) tab10 14 (fun f' L' w' hc => Op1.extract (v := .agg #[.int .u8 _, .int .u32 _, str _]) (hc.det (j := 12) rfl rfl rfl rfl) rfl ⟨[], ⟨rfl, rfl⟩, hc.st⟩) <| RunD.op (det _) tab10 15 (fun f' L' w' hc => Op1.extract (v := .int .i64 _) (hc.det (j := 12) rfl rfl rfl rfl) rfl ⟨[], ⟨rfl, rfl⟩, hc.st⟩) ?_
       refine RunD.op (det _) tab10 16 (fun f' L' w' hc => Op1.extract (v := .int .i64 _) (hc.det (j := 12) rfl rfl rfl rfl) rfl ⟨[], ⟨rfl, rfl⟩, hc.st⟩) <| RunD.op (fun v rs => ∃ b, v = .pointer (some ⟨b, 0, none⟩) ∧ rs = [Res.row b 71 [.int .u8 0, .int .u32 0, str []]]) tab10 17 (fun f' L' w' hc => Op1.alloc hc.st ty71 fun w b hst => ⟨[_], ⟨b, rfl, rfl⟩, hst⟩) <| RunD.overS (T := 71) (zs := [.int .u8 0, .int .u32 0, str []]) _ tab10 18 16 11 (.head _) rfl rfl rfl (fun f' L' w' c L2 hc hp hst => Op1.store (v := .agg #[.int .u8 _, .int .u32 _, str _]) hst ty71 (evs hp rfl) (hc.det (j := 13) rfl rfl rfl rfl) rfl rfl rfl .here (by repeat (first | exact Put.nil | apply Put.put | apply Put.skip)) fun w hst => ⟨rfl, hst⟩) ?_
       refine RunD.op (det _) tab10 19 (fun f' L' w' hc => Op1.assign (v := .int .i64 _) (hc.det (j := 14) rfl rfl rfl rfl) ⟨[], ⟨rfl, rfl⟩, hc.st⟩) <| RunD.finT followsMixed tab10 hst rfl (fun f11 w R14 hs12 hd13 hr15 hst => ?_)
       obtain ⟨h74_, r0⟩ := hd13 0 74 rfl rfl
       obtain ⟨h75_, r1⟩ := hd13 1 75 rfl rfl
       obtain ⟨h76_, r2⟩ := hd13 2 76 rfl rfl
       obtain ⟨h77_, r3⟩ := hd13 3 77 rfl rfl
       obtain ⟨h78_, r4⟩ := hd13 4 78 rfl rfl
       obtain ⟨h79_, r5⟩ := hd13 5 79 rfl rfl
       obtain ⟨h80_, r6⟩ := hd13 6 80 rfl rfl
       obtain ⟨h81_, r7⟩ := hd13 7 81 rfl rfl
       obtain ⟨h82_, r8⟩ := hd13 8 82 rfl rfl
       obtain ⟨h83_, r9⟩ := hd13 9 83 rfl rfl
       obtain ⟨h84_, r10⟩ := hd13 10 84 rfl rfl
       obtain ⟨h85_, r11⟩ := hd13 11 85 rfl rfl
       obtain ⟨h73_, r12⟩ := hd13 12 73 rfl rfl
       obtain ⟨h86_, r13⟩ := hd13 13 86 rfl rfl
       obtain ⟨h87_, r14⟩ := hd13 14 87 rfl rfl
       obtain ⟨h88_, r15⟩ := hd13 15 88 rfl rfl
       obtain ⟨_, _, b11, h11_, r17⟩ := hr15 17 rfl
       rw [DrawTab.mask tab10 _ (j := 17) (l := 16) (t := 11) rfl rfl] at h11_
       obtain ⟨h12_, r18⟩ := hd13 18 12 rfl rfl
       simp only [show List.range 19 = [0, 1, 2, 3, 4, 5, 6, 7, 8, 9, 10, 11, 12, 13, 14, 15, 16, 17, 18] from rfl, List.flatMap_cons, List.flatMap_nil, List.map_cons, List.map_nil, show finR [(16, 17)] R14 0 = R14 0 from rfl, show finR [(16, 17)] R14 1 = R14 1 from rfl, show finR [(16, 17)] R14 2 = R14 2 from rfl, show finR [(16, 17)] R14 3 = R14 3 from rfl, show finR [(16, 17)] R14 4 = R14 4 from rfl, show finR [(16, 17)] R14 5 = R14 5 from rfl, show finR [(16, 17)] R14 6 = R14 6 from rfl, show finR [(16, 17)] R14 7 = R14 7 from rfl, show finR [(16, 17)] R14 8 = R14 8 from rfl, show finR [(16, 17)] R14 9 = R14 9 from rfl, show finR [(16, 17)] R14 10 = R14 10 from rfl, show finR [(16, 17)] R14 11 = R14 11 from rfl, show finR [(16, 17)] R14 12 = R14 12 from rfl, show finR [(16, 17)] R14 13 = R14 13 from rfl, show finR [(16, 17)] R14 14 = R14 14 from rfl, show finR [(16, 17)] R14 15 = R14 15 from rfl, show finR [(16, 17)] R14 16 = [] from rfl, show finR [(16, 17)] R14 17 = R14 17 from rfl, show finR [(16, 17)] R14 18 = R14 18 from rfl, r0, r1, r2, r3, r4, r5, r6, r7, r8, r9, r10, r11, r12, r13, r14, r15, r17, r18, List.nil_append, List.append_nil, List.cons_append] at hst
       refine RunL.slots (sl := [(1, .int .u32 _), (2, .pointer (some ⟨_, _, none⟩)), (4, .pointer (some ⟨_, _, none⟩)), (6, .pointer (some ⟨_, _, none⟩)), (8, .int .i64 _), (10, .pointer (some ⟨_, _, none⟩)), (11, .pointer (some ⟨_, _, none⟩)), (12, .int .i64 _), (88, .int .i64 _)]) ⟨(hs12 1 rfl).trans rfl, (hs12 2 rfl).trans rfl, (hs12 4 rfl).trans rfl, (hs12 6 rfl).trans rfl, (hs12 8 rfl).trans rfl, (hs12 10 rfl).trans rfl, h11_, h12_, h88_, trivial⟩ ?_
       clear hs12 hd13 hr15 tab10
       refine AI rfl <| NL <| Run.forget [(1, .int .u32 _), (2, .pointer (some ⟨_, _, none⟩)), (4, .pointer (some ⟨_, _, none⟩)), (6, .pointer (some ⟨_, _, none⟩)), (8, .int .i64 _), (10, .pointer (some ⟨_, _, none⟩)), (11, .pointer (some ⟨_, _, none⟩)), (12, .int .i64 _), (13, .int .i64 _)] ⟨rfl, rfl, rfl, rfl, rfl, rfl, rfl, rfl, rfl, trivial⟩ fun f => SQ <| SR <| MI rfl <| CN <| Op1.neq rfl rfl <| NL <| run_cond_dec rfl (fun g16 => ?_) (fun g16 => ?_)
       · skip
         refine SR <| CN (Op1.buildStruct ty48 stf48 .nil ?_)
         refine MI rfl <| CN (SO (v := .agg #[.int .u16 _, .int .u32 _, .int .u32 _, .slice _ _ _]) hst ty48 rfl rfl (.there (.there (.there (.there (.here))))) fun w hst => ?_)
         refine AI rfl <| NL <| run_ret2 Try.func24 rfl (RV.cellA (vs := [.int .u16 _, .int .u32 _, .int .u32 _, .slice _ _ _]) rfl ty48 rfl rfl (cells_of_obj (n := 4) (hst.objL (.tail _ (.tail _ (.tail _ (.tail _ (.head _)))))) _ rfl)) (TP (v := .int .i64 _) rfl) ?_
         replace hst := hst.pick .nil
         have hI := instF_err (op := op) (bound := bound) (l := l) (e := e) (by omega) hisS (by rw [hfm]; exact hK.err rfl hgo hqe.1 g16) g16
         rw [hI]
         exact ⟨none, 0, rfl, (hst.pushNil 71 3).noD⟩
       obtain rfl : e = 0 := by omega
       have hmo := hK.more rfl hgo (hqe.2 rfl)
       refine run_skip <| SR <| CN <| Op1.fieldAddr fld48_3 rfl <| CN <| Op1.load1 (v := .slice _ _ _) ty46 rfl rfl (hst.cellL (.tail _ (.head _)) rfl) <| CN <| Op1.loadA (vs := [.int .u8 _, .int .u32 _, str _]) ty71 rfl rfl rfl (cells_of_obj (n := 3) (hst.objL (.head _)) _ rfl) <| CN (Op1.buildSl (z0 := [.int .u8 0, .int .u32 0, str []]) hst ty46 ty71 rfl rfl (by kernel_rfl) (.c (v := .agg #[.int .u8 _, .int .u32 _, str _]) rfl (h := .nil)) fun w b96 hst => ?_)
       refine CN (Op1.append (news := [.int .u8 _, .int .u32 _, str _]) hst ty46 ty71 rfl rfl (.there (.there (.there (.here)))) rfl rfl rfl (cells_of_obj (n := 3) (hst.objL (.head _)) _ rfl) rfl rfl (by omega) fun w ao17 cp18 hst => ?_)
       replace hst := hst.drop (.there (.here))
       refine CN <| Op1.fieldAddr fld48_3 rfl <| CN (SO (v := .slice _ _ _) hst ty46 rfl rfl (.there (.there (.here))) fun w hst => ?_)
       refine NR <| MI rfl <| MI rfl <| CN <| Op1.addN rfl rfl rfl (wrap_i64 (by omega) (by omega)) <| AI rfl <| NL <| run_inBlock <| run_inLoop ?_
       have e1 : ags.length + 1 = (ags ++ [x]).length := by simp
       have e2 : ags.flatMap argC ++ [.int .u8 x.kind, .int .u32 x.n, str x.s] = (ags ++ [x]).flatMap argC := by simp
       rw [e1, e2] at hst
       replace hst := hst.pick (.cons (.there (.there (.here))) (.cons (.here) (.cons (.there (.here)) (.cons (.there (.here)) (.cons (.there (.here)) .nil)))))
       exact ih8 ((a + m, ao17, cp18, ags ++ [x])) _ w (by (try dsimp only); omega) hst (hmo.1) ⟨rfl, rfl, rfl, rfl, rfl, trivial⟩ ⟨(congrArg (Value.int .i64) (by (try dsimp only); omega)), trivial⟩
     refine TK (t := 64) rfl (congrArg Value.bool (decide_eq_false g9)) <| Op1.fieldAddr fld48_3 rfl <| TK (t := 64) rfl (congrArg Value.bool (decide_eq_false g9)) <| Op1.load1 (v := .slice _ _ _) ty46 rfl rfl (hst.cellL (.head _) rfl) <| TK (t := 64) rfl (congrArg Value.bool (decide_eq_false g9)) <| Op1.lenSl (rest := []) ty46 rfl <| TK (t := 64) rfl (congrArg Value.bool (decide_eq_false g9)) <| Op1.fieldAddr fld80_4 rfl <| TK (t := 64) rfl (congrArg Value.bool (decide_eq_false g9)) <| Op1.load1 (v := str _) ty9 rfl rfl (hst.cellL (.tail _ (.tail _ (.head _))) rfl) <| TK (t := 64) rfl (congrArg Value.bool (decide_eq_false g9)) <| Op1.lenS (rest := []) ty9 rfl <| TK (t := 64) rfl (congrArg Value.bool (decide_eq_false g9)) <| Op1.lss rfl rfl <| CN <| Op1.pickF (u := .bool _) (congrArg Value.bool (decide_eq_false g9)) rfl <| NL <| run_cond_dec rfl (fun g19 => ?_) (fun g19 => ?_)
     · skip
       have hnl : ags.length ≤ 1000000 := by have := hK.2.1; have := hK.1; omega
       refine run_skip <| run_block <| SQ ?_
       obtain ⟨⟨x, m, e⟩, hq⟩ : ∃ q, argQ (letterS fm (ags.length : Int)) (l.drop a) bound = q := ⟨_, rfl⟩
       have hwd : Wd (l.drop a) := fun y hy => hw y (List.mem_of_mem_drop hy)
       have hgo : l.length - a > 0 ∨ ags.length < fm.fixed.length := by omega
       have hqe := argQ_E (c := letterS fm (ags.length : Int)) (ws := l.drop a) (bound := bound)
       rw [hq] at hqe
       dsimp only at hqe
       refine RunD.startT [(16, 17)] [] hst (bs := [0, 1, 0, 4, 12, 31, 0, 64, 0, 448, 0, 2047, 4095, 8191, 8191, 8191, 0, 81919, 229375, 524287]) (ds := [some 74, some 75, some 76, some 77, some 78, some 79, some 80, some 81, some 82, some 83, some 84, some 85, some 73, some 86, some 87, some 88, some 11, none, some 12, some 13]) ⟨by kernel_rfl, by kernel_rfl, by kernel_rfl⟩ (fun tab20 => ?_)
       refine RunD.op (det _) tab20 1 (fun f' L' w' hc => Op1.fieldAddr fld45_0 (hc.old (v := .pointer (some ⟨_, _, none⟩)) rfl rfl rfl) ⟨[], ⟨rfl, rfl⟩, hc.st⟩) <| RunD.op (det _) tab20 2 (fun f' L' w' hc => Op1.load1 (v := .int .u16 _) ty42 rfl (hc.det (j := 0) rfl rfl rfl rfl) (hc.st.cellL (List.mem_append_right _ (.tail _ (.tail _ (.tail _ (.tail _ (.head _)))))) rfl) ⟨[], ⟨rfl, rfl⟩, hc.st⟩) <| RunD.op (det _) tab20 3 (fun f' L' w' hc => Op1.fieldAddr fld48_3 (hc.old (v := .pointer (some ⟨_, _, none⟩)) rfl rfl rfl) ⟨[], ⟨rfl, rfl⟩, hc.st⟩) <| RunD.op (det _) tab20 4 (fun f' L' w' hc => Op1.load1 (v := .slice _ _ _) ty46 rfl (hc.det (j := 2) rfl rfl rfl rfl) (hc.st.cellL (List.mem_append_right _ (.head _)) rfl) ⟨[], ⟨rfl, rfl⟩, hc.st⟩) <| RunD.op (det _) tab20 5 (fun f' L' w' hc => Op1.lenSl (rest := []) ty46 (hc.det (j := 3) rfl rfl rfl rfl) ⟨[], ⟨rfl, rfl⟩, hc.st⟩) <| RunD.op (det _) tab20 6 (fun f' L' w' hc => Op1.call2 (v1 := .int .u16 _) (v2 := .int .i64 _) ent51 rfl (hc.det (j := 1) rfl rfl rfl rfl) (hc.det (j := 4) rfl rfl rfl rfl) ((R3ref_Letter2 h0 hfm _ (by omega) _).mono fun v w hp => ⟨[], ⟨hp.1, rfl⟩, hc.st.keepc hp.2⟩)) <| RunD.op (det _) tab20 7 (fun f' L' w' hc => Op1.fieldAddr fld45_1 (hc.old (v := .pointer (some ⟨_, _, none⟩)) rfl rfl rfl) ⟨[], ⟨rfl, rfl⟩, hc.st⟩) <| RunD.op (det _) tab20 8 (fun f' L' w' hc => Op1.load1 (v := .slice _ _ _) ty43 rfl (hc.det (j := 6) rfl rfl rfl rfl) (hc.st.cellL (List.mem_append_right _ (.tail _ (.tail _ (.tail _ (.tail _ (.head _)))))) rfl) ⟨[], ⟨rfl, rfl⟩, hc.st⟩) <| RunD.op (det _) tab20 9 (fun f' L' w' hc => Op1.move (v := .int .i64 _) (hc.old (v := .int .i64 _) rfl rfl rfl) ⟨[], ⟨rfl, rfl⟩, hc.st⟩) <| RunD.op (det _) tab20 10 (fun f' L' w' hc => Op1.sliceSlF (lo := a) (n := l.length) (cap := cp) ty43 ty23 (hc.det (j := 7) rfl rfl rfl rfl) (hc.det (j := 8) rfl rfl rfl rfl) rfl hK.1 ⟨[], ⟨rfl, rfl⟩, hc.st⟩) <| RunD.op (det _) tab20 11 (fun f' L' w' hc => Op1.move (v := .int .u32 _) (hc.old (v := .int .u32 _) rfl rfl rfl) ⟨[], ⟨rfl, rfl⟩, hc.st⟩) <| RunD.op (det _) tab20 12 (fun f' L' w' hc => Op1.call3 (v1 := .int .u8 _) (v2 := .slice _ _ _) (v3 := .int .u32 _) ent50 rfl (hc.det (j := 5) rfl rfl rfl rfl) (hc.det (j := 9) rfl rfl rfl rfl) (hc.det (j := 10) rfl rfl rfl rfl) ((R3ref4_Argument2 hq (letterS_bd fm _).1 (letterS_bd fm _).2 hwd (by rw [List.length_drop]) rfl _ _ (rs_from (hc.st.hD _ (.head _)) hK.1 hcp) (by omega)).mono fun v w hp => ⟨[], ⟨hp.1, rfl⟩, hc.st.keepc hp.2⟩)) <| RunD.op (det _) tab20 13 (fun f' L' w' hc => Op1.move (v := .tuple #[.agg #[.int .u8 _, .int .u32 _, str _], .int .i64 _, .int .i64 _]) (hc.det (j := 11) rfl rfl rfl rfl) ⟨[], ⟨rfl, rfl⟩, hc.st⟩) <| RunD.op (det _) tab20 14 (fun f' L' w' hc => Op1.extract (v := .agg #[.int .u8 _, .int .u32 _, str _]) (hc.det (j := 12) rfl rfl rfl rfl) rfl ⟨[], ⟨rfl, rfl⟩, hc.st⟩) <| RunD.op (det _) tab20 15 (fun f' L' w' hc => Op1.extract (v := .int .i64 _) (hc.det (j := 12) rfl rfl rfl rfl) rfl ⟨[], ⟨rfl, rfl⟩, hc.st⟩) ?_
       refine RunD.op (det _) tab20 16 (fun f' L' w' hc => Op1.extract (v := .int .i64 _) (hc.det (j := 12) rfl rfl rfl rfl) rfl ⟨[], ⟨rfl, rfl⟩, hc.st⟩) <| RunD.op (fun v rs => ∃ b, v = .pointer (some ⟨b, 0, none⟩) ∧ rs = [Res.row b 71 [.int .u8 0, .int .u32 0, str []]]) tab20 17 (fun f' L' w' hc => Op1.alloc hc.st ty71 fun w b hst => ⟨[_], ⟨b, rfl, rfl⟩, hst⟩) <| RunD.overS (T := 71) (zs := [.int .u8 0, .int .u32 0, str []]) _ tab20 18 16 11 (.head _) rfl rfl rfl (fun f' L' w' c L2 hc hp hst => Op1.store (v := .agg #[.int .u8 _, .int .u32 _, str _]) hst ty71 (evs hp rfl) (hc.det (j := 13) rfl rfl rfl rfl) rfl rfl rfl .here (by repeat (first | exact Put.nil | apply Put.put | apply Put.skip)) fun w hst => ⟨rfl, hst⟩) ?_
       refine RunD.op (det _) tab20 19 (fun f' L' w' hc => Op1.assign (v := .int .i64 _) (hc.det (j := 14) rfl rfl rfl rfl) ⟨[], ⟨rfl, rfl⟩, hc.st⟩) <| RunD.finT followsMixed tab20 hst rfl (fun f21 w R24 hs22 hd23 hr25 hst => ?_)
       obtain ⟨h74_, r0⟩ := hd23 0 74 rfl rfl
       obtain ⟨h75_, r1⟩ := hd23 1 75 rfl rfl
       obtain ⟨h76_, r2⟩ := hd23 2 76 rfl rfl
       obtain ⟨h77_, r3⟩ := hd23 3 77 rfl rfl
       obtain ⟨h78_, r4⟩ := hd23 4 78 rfl rfl
       obtain ⟨h79_, r5⟩ := hd23 5 79 rfl rfl
       obtain ⟨h80_, r6⟩ := hd23 6 80 rfl rfl
       obtain ⟨h81_, r7⟩ := hd23 7 81 rfl rfl
       obtain ⟨h82_, r8⟩ := hd23 8 82 rfl rfl
       obtain ⟨h83_, r9⟩ := hd23 9 83 rfl rfl
       obtain ⟨h84_, r10⟩ := hd23 10 84 rfl rfl
       obtain ⟨h85_, r11⟩ := hd23 11 85 rfl rfl
       obtain ⟨h73_, r12⟩ := hd23 12 73 rfl rfl
       obtain ⟨h86_, r13⟩ := hd23 13 86 rfl rfl
       obtain ⟨h87_, r14⟩ := hd23 14 87 rfl rfl
       obtain ⟨h88_, r15⟩ := hd23 15 88 rfl rfl
       obtain ⟨_, _, b11, h11_, r17⟩ := hr25 17 rfl
       rw [DrawTab.mask tab20 _ (j := 17) (l := 16) (t := 11) rfl rfl] at h11_
       obtain ⟨h12_, r18⟩ := hd23 18 12 rfl rfl
       simp only [show List.range 19 = [0, 1, 2, 3, 4, 5, 6, 7, 8, 9, 10, 11, 12, 13, 14, 15, 16, 17, 18] from rfl, List.flatMap_cons, List.flatMap_nil, List.map_cons, List.map_nil, show finR [(16, 17)] R24 0 = R24 0 from rfl, show finR [(16, 17)] R24 1 = R24 1 from rfl, show finR [(16, 17)] R24 2 = R24 2 from rfl, show finR [(16, 17)] R24 3 = R24 3 from rfl, show finR [(16, 17)] R24 4 = R24 4 from rfl, show finR [(16, 17)] R24 5 = R24 5 from rfl, show finR [(16, 17)] R24 6 = R24 6 from rfl, show finR [(16, 17)] R24 7 = R24 7 from rfl, show finR [(16, 17)] R24 8 = R24 8 from rfl, show finR [(16, 17)] R24 9 = R24 9 from rfl, show finR [(16, 17)] R24 10 = R24 10 from rfl, show finR [(16, 17)] R24 11 = R24 11 from rfl, show finR [(16, 17)] R24 12 = R24 12 from rfl, show finR [(16, 17)] R24 13 = R24 13 from rfl, show finR [(16, 17)] R24 14 = R24 14 from rfl, show finR [(16, 17)] R24 15 = R24 15 from rfl, show finR [(16, 17)] R24 16 = [] from rfl, show finR [(16, 17)] R24 17 = R24 17 from rfl, show finR [(16, 17)] R24 18 = R24 18 from rfl, r0, r1, r2, r3, r4, r5, r6, r7, r8, r9, r10, r11, r12, r13, r14, r15, r17, r18, List.nil_append, List.append_nil, List.cons_append] at hst
       refine RunL.slots (sl := [(1, .int .u32 _), (2, .pointer (some ⟨_, _, none⟩)), (4, .pointer (some ⟨_, _, none⟩)), (6, .pointer (some ⟨_, _, none⟩)), (8, .int .i64 _), (10, .pointer (some ⟨_, _, none⟩)), (11, .pointer (some ⟨_, _, none⟩)), (12, .int .i64 _), (88, .int .i64 _)]) ⟨(hs22 1 rfl).trans rfl, (hs22 2 rfl).trans rfl, (hs22 4 rfl).trans rfl, (hs22 6 rfl).trans rfl, (hs22 8 rfl).trans rfl, (hs22 10 rfl).trans rfl, h11_, h12_, h88_, trivial⟩ ?_
       clear hs22 hd23 hr25 tab20
       refine AI rfl <| NL <| Run.forget [(1, .int .u32 _), (2, .pointer (some ⟨_, _, none⟩)), (4, .pointer (some ⟨_, _, none⟩)), (6, .pointer (some ⟨_, _, none⟩)), (8, .int .i64 _), (10, .pointer (some ⟨_, _, none⟩)), (11, .pointer (some ⟨_, _, none⟩)), (12, .int .i64 _), (13, .int .i64 _)] ⟨rfl, rfl, rfl, rfl, rfl, rfl, rfl, rfl, rfl, trivial⟩ fun f => SQ <| SR <| MI rfl <| CN <| Op1.neq rfl rfl <| NL <| run_cond_dec rfl (fun g26 => ?_) (fun g26 => ?_)
       · skip
         refine SR <| CN (Op1.buildStruct ty48 stf48 .nil ?_)
         refine MI rfl <| CN (SO (v := .agg #[.int .u16 _, .int .u32 _, .int .u32 _, .slice _ _ _]) hst ty48 rfl rfl (.there (.there (.there (.there (.here))))) fun w hst => ?_)
         refine AI rfl <| NL <| run_ret2 Try.func24 rfl (RV.cellA (vs := [.int .u16 _, .int .u32 _, .int .u32 _, .slice _ _ _]) rfl ty48 rfl rfl (cells_of_obj (n := 4) (hst.objL (.tail _ (.tail _ (.tail _ (.tail _ (.head _)))))) _ rfl)) (TP (v := .int .i64 _) rfl) ?_
         replace hst := hst.pick .nil
         have hI := instF_err (op := op) (bound := bound) (l := l) (e := e) (by omega) hisS (by rw [hfm]; exact hK.err rfl hgo hqe.1 g26) g26
         rw [hI]
         exact ⟨none, 0, rfl, (hst.pushNil 71 3).noD⟩
       obtain rfl : e = 0 := by omega
       have hmo := hK.more rfl hgo (hqe.2 rfl)
       refine run_skip <| SR <| CN <| Op1.fieldAddr fld48_3 rfl <| CN <| Op1.load1 (v := .slice _ _ _) ty46 rfl rfl (hst.cellL (.tail _ (.head _)) rfl) <| CN <| Op1.loadA (vs := [.int .u8 _, .int .u32 _, str _]) ty71 rfl rfl rfl (cells_of_obj (n := 3) (hst.objL (.head _)) _ rfl) <| CN (Op1.buildSl (z0 := [.int .u8 0, .int .u32 0, str []]) hst ty46 ty71 rfl rfl (by kernel_rfl) (.c (v := .agg #[.int .u8 _, .int .u32 _, str _]) rfl (h := .nil)) fun w b96 hst => ?_)
       refine CN (Op1.append (news := [.int .u8 _, .int .u32 _, str _]) hst ty46 ty71 rfl rfl (.there (.there (.there (.here)))) rfl rfl rfl (cells_of_obj (n := 3) (hst.objL (.head _)) _ rfl) rfl rfl (by omega) fun w ao27 cp28 hst => ?_)
       replace hst := hst.drop (.there (.here))
       refine CN <| Op1.fieldAddr fld48_3 rfl <| CN (SO (v := .slice _ _ _) hst ty46 rfl rfl (.there (.there (.here))) fun w hst => ?_)
       refine NR <| MI rfl <| MI rfl <| CN <| Op1.addN rfl rfl rfl (wrap_i64 (by omega) (by omega)) <| AI rfl <| NL <| run_inBlock <| run_inLoop ?_
       have e1 : ags.length + 1 = (ags ++ [x]).length := by simp
       have e2 : ags.flatMap argC ++ [.int .u8 x.kind, .int .u32 x.n, str x.s] = (ags ++ [x]).flatMap argC := by simp
       rw [e1, e2] at hst
       replace hst := hst.pick (.cons (.there (.there (.here))) (.cons (.here) (.cons (.there (.here)) (.cons (.there (.here)) (.cons (.there (.here)) .nil)))))
       exact ih8 ((a + m, ao27, cp28, ags ++ [x])) _ w (by (try dsimp only); omega) hst (hmo.1) ⟨rfl, rfl, rfl, rfl, rfl, trivial⟩ ⟨(congrArg (Value.int .i64) (by (try dsimp only); omega)), trivial⟩
     have hnl : ags.length ≤ 1000000 := by have := hK.2.1; have := hK.1; omega
     have hstop := hK.stop (by omega) (by omega)
     refine run_exit (id := 0) rfl <| SQ <| SR <| CN <| Op1.loadA (vs := [.int .u16 _, str _, .bool _, .bool _, str _, str _, .int .i64 _, .int .u8 _]) ty80 rfl rfl rfl (cells_of_obj (n := 8) (hst.objL (.tail _ (.tail _ (.head _)))) _ rfl) <| CN <| Op1.fieldAddr fld48_3 rfl <| CN <| Op1.load1 (v := .slice _ _ _) ty46 rfl rfl (hst.cellL (.head _) rfl) <| CN <| Op1.lenSl (rest := []) ty46 rfl <| CN <| Op1.call2 (v1 := .agg #[.int .u16 _, str _, .bool _, .bool _, str _, str _, .int .i64 _, .int .u8 _]) (v2 := .int .i64 _) ent52 rfl rfl rfl <| Ret.det (R3ref4_Whole fm hf ags.length (by omega) _) hst fun w hst => CN <| Op1.not rfl <| NL <| Run.forget [(4, .pointer (some ⟨_, _, none⟩)), (10, .pointer (some ⟨_, _, none⟩)), (107, .bool _)] ⟨rfl, rfl, rfl, trivial⟩ fun f => run_cond_split rfl (fun g29 => ?_) (fun g29 => ?_)
     · skip
       refine SR <| CN (Op1.buildStruct ty48 stf48 .nil ?_)
       refine CN (SO (v := .agg #[.int .u16 _, .int .u32 _, .int .u32 _, .slice _ _ _]) hst ty48 rfl rfl (.there (.there (.there (.here)))) fun w hst => ?_)
       refine AI rfl <| NL <| run_ret2 Try.func24 rfl (RV.cellA (vs := [.int .u16 _, .int .u32 _, .int .u32 _, .slice _ _ _]) rfl ty48 rfl rfl (cells_of_obj (n := 4) (hst.objL (.tail _ (.tail _ (.tail _ (.head _))))) _ rfl)) (TP (v := .int .i64 _) rfl) ?_
       replace hst := hst.pick .nil
       have hk := instS_kinds (op := op) (bound := bound) (l := l) (by rw [hfm]; exact hstop.2)
       rw [hfm, ← hstop.1] at hk
       have hwq := wholeQ_E (op := op) (ags := ags) hisS (by rw [hfm]; exact hk)
       rw [hfm] at hwq
       rw [if_neg (by simpa using g29)] at hwq
       have hI := instF_whole (op := op) (bound := bound) (l := l) (e := 42) (by omega) hisS (by rw [hfm]; exact hstop.2) (by rw [hfm, ← hstop.1]; exact hwq) (by decide)
       rw [hI]
       exact ⟨none, 0, rfl, (hst.pushNil 71 3).noD⟩
     refine run_skip <| SR <| CN <| Op1.loadA (vs := [.int .u16 _, .int .u32 _, .int .u32 _, .slice _ _ _]) ty48 rfl rfl rfl (cells_of_obj (n := 4) (hst.objL (.head _)) _ rfl) <| CN (SO (v := .agg #[.int .u16 _, .int .u32 _, .int .u32 _, .slice _ _ _]) hst ty48 rfl rfl (.there (.there (.there (.here)))) fun w hst => ?_)
     refine AI rfl <| NL <| run_ret2 Try.func24 rfl (RV.cellA (vs := [.int .u16 _, .int .u32 _, .int .u32 _, .slice _ _ _]) rfl ty48 rfl rfl (cells_of_obj (n := 4) (hst.objL (.tail _ (.tail _ (.tail _ (.head _))))) _ rfl)) (TP (v := .int .i64 _) rfl) ?_
     replace hst := hst.pick (.cons (.there (.here)) .nil)
     have hk := instS_kinds (op := op) (bound := bound) (l := l) (by rw [hfm]; exact hstop.2)
     rw [hfm, ← hstop.1] at hk
     have hwq := wholeQ_E (op := op) (ags := ags) hisS (by rw [hfm]; exact hk)
     rw [hfm] at hwq
     rw [if_pos (by simpa using g29)] at hwq
     have hI := instF_ok (op := op) (bound := bound) (l := l) (by omega) hisS (by rw [hfm]; exact hstop.2) (by rw [hfm, ← hstop.1]; exact hwq)
     rw [hfm, ← hstop.1] at hI
     rw [hI]
     dsimp only
     rw [← hJ1, ← hJ2]
     exact ⟨aa, ca, rfl, hst.noD⟩
   · skip
     refine SR <| CN <| Op1.fieldAddr fld80_3 rfl <| CN <| Op1.load1 (v := .bool _) ty4 rfl rfl (hst.cellL (.tail _ (.tail _ (.head _))) rfl) <| NL <| run_cond_split rfl (fun g30 => ?_) (fun g30 => ?_)
     · skip
       have hr : fm.res = true := by simpa using g30
       have hb2 : b2n fm.res = 1 := by rw [b2n, hr]; rfl
       refine RG <| CN <| Op1.fieldAddr fld45_1 rfl <| CN <| Op1.load1 (v := .slice _ _ _) ty43 rfl rfl (hst.cellL (.tail _ (.tail _ (.tail _ (.tail _ (.head _))))) rfl) <| MI rfl <| CN <| Op1.subN rfl rfl rfl (wrap_i64 (by omega) (by omega)) <| CN <| Op1.indexRs ty43 ty23 (hst.hD _ (.head _)) rfl rfl (by omega) (by omega) <| CN <| Op1.load1 (v := .int .u32 _) ty23 rfl rfl (Res.rs2_cell (hst.hD _ (.head _)) (flat_cell0 (g := u32C) (d := 0) u32C_len rfl (by omega))) <| CN <| Op1.fieldAddr fld48_2 rfl <| CN (SO (v := .int .u32 _) hst ty23 rfl rfl (.here) fun w hst => ?_)
       refine NL ?_
       have hix : ((hn : Int) - 1).toNat = b2n fm.ty := by omega
       exact cut6 ((l.getD (b2n fm.ty) 0)) _ w ((by rw [← hix]; exact hst)) ((by rw [hr]; rfl)) ⟨rfl, rfl, rfl, rfl, rfl, rfl, trivial⟩ trivial
     have hr : fm.res = false := by simpa using g30
     refine run_skip ?_
     exact cut6 (0) _ w (hst) ((by rw [hr]; rfl)) ⟨rfl, rfl, rfl, rfl, rfl, rfl, trivial⟩ trivial
 · skip
   refine SR <| CN <| Op1.fieldAddr fld80_2 rfl <| CN <| Op1.load1 (v := .bool _) ty4 rfl rfl (hst.cellL (.tail _ (.tail _ (.head _))) rfl) <| NL <| run_cond_split rfl (fun g31 => ?_) (fun g31 => ?_)
   · skip
     have ht : fm.ty = true := by simpa using g31
     have hb : b2n fm.ty = 1 := by rw [b2n, ht]; rfl
     refine RG <| CN <| Op1.fieldAddr fld45_1 rfl <| CN <| Op1.load1 (v := .slice _ _ _) ty43 rfl rfl (hst.cellL (.tail _ (.tail _ (.tail _ (.tail _ (.head _))))) rfl) <| CN <| Op1.indexRs ty43 ty23 (hst.hD _ (.head _)) rfl rfl (by omega) (by omega) <| CN <| Op1.load1 (v := .int .u32 _) ty23 rfl rfl (Res.rs2_cell (hst.hD _ (.head _)) (flat_cell0 (g := u32C) (d := 0) u32C_len rfl (by omega))) <| CN <| Op1.fieldAddr fld48_1 rfl <| CN (SO (v := .int .u32 _) hst ty23 rfl rfl (.here) fun w hst => ?_)
     refine NL ?_
     exact cut4 ((l.getD 0 0)) _ w (hst) ((by rw [ht]; rfl)) ⟨rfl, rfl, rfl, rfl, rfl, rfl, trivial⟩ trivial
   have ht : fm.ty = false := by simpa using g31
   refine run_skip ?_
   exact cut4 (0) _ w (hst) ((by rw [ht]; rfl)) ⟨rfl, rfl, rfl, rfl, rfl, rfl, trivial⟩ trivial
end Go.SK
namespace Go.SK
open Go Go.Proofs
theorem ent24 : Enters Try.prog 24 := ⟨Try.f24, _, Try.func24, by kernel_rfl, rfl⟩
end Go.SK
namespace Go.SK
open Go Go.Proofs
open Go.RowKit
theorem R3ref4_InstD {op bound e : Int} {l : List Int} {I : InstL} (hI : instF bound op l = (I, e)) (hw : Wd l) (ao : Option Addr) (cp : Nat) (hcp : l.length ≤ cp) (h0 : 0 ≤ op) (w : World) (hA : (Res.rs ao l.length 1 (l.flatMap u32C)).holds w) (hl : l.length ≤ 35184372088832) : Ret Try.prog 24 #[.agg #[.int .u16 op, .slice ao l.length cp], .int .u32 bound] w (fun v w' => ∃ ro rc, v = .tuple #[.agg #[.int .u16 I.op, .int .u32 I.ty, .int .u32 I.res, .slice ro I.args.length rc], .int .i64 e] ∧ St w NoM [Res.sl ro I.args.length rc 71 3 (I.args.flatMap argC)] [] w') := by
 have h := R3ref4_Inst op l hw ao cp hcp bound h0 w hA hl
 rw [hI] at h; exact h
end Go.SK
