/-
  Walks of functions, and of the laws over them.
-/
import Derived.Test.YtheckaonphmmiaaSkGrP
import Derived.Test.YtheckaonphmmiaaSkGrP2
import Derived.Test.YtheckaonphmmiaaSkQ
import Derived.Test.YtheckaonphmmiaaSkR2GrI
import Derived.Test.YtheckaonphmmiaaSkR2GrJF
set_option linter.unusedVariables false
set_option linter.unusedSimpArgs false
namespace Go.SK
open Go Go.Proofs
open Go.RowKit
theorem R2gr_Fits3 {op : Int} (h0 : 0 ≤ op) {ks : List Int} {p : Int × Bool} (hp : fitsS op ks = p) (ao : Option Addr) (cp n : Nat) (hn : n = ks.length) (w : World) (hA : (Res.rs ao ks.length 1 (ks.flatMap u8C)).holds w) (hlen : ks.length ≤ 9000000000000000000) :
    Ret Try.prog 29 #[.int .u16 op, .slice ao n cp] w fun v w' => v = fitsV p ∧ St w NoM [] [] w' := by
  subst hp; subst hn; exact R2gr_Fits op h0 ks ao cp w hA hlen
theorem R2law_GrammarRows (op : Int) (h0 : 0 ≤ op) (ks : List Int) (ao : Option Addr) (cp : Nat) (ms : List Int) (bo : Option Addr) (cq : Nat) (w : World) (hA : (Res.rs ao ks.length 1 (ks.flatMap u8C)).holds w) (hB : (Res.rs bo ms.length 1 (ms.flatMap u8C)).holds w) (hlen : ks.length ≤ 1048576) (hlem : ms.length ≤ 1048576) : Ret Try.prog 10 #[.int .u16 op, .slice ao ks.length cp, .slice bo ms.length cq] w (fun v w' => v = .bool true ∧ St w NoM [] [] w') := by
  refine Ret.enter (args := [.int .u16 op, .slice ao ks.length cp, .slice bo ms.length cq]) Try.func10 rfl rfl rfl ?_
  have hst : St w NoM [] [Res.rs ao ks.length 1 (ks.flatMap u8C), Res.rs bo ms.length 1 (ms.flatMap u8C)] w := St.init_Ds (fun d hd => by cases hd with | head => exact hA | tail _ hd => cases hd with | head => exact hB | tail _ h => cases h)
  clear hA hB
  obtain ⟨fm, hfm⟩ : ∃ x, refD op = x := ⟨_, rfl⟩
  obtain ⟨ob, hob⟩ : ∃ x, (refS op).isSome = x := ⟨_, rfl⟩
  have hf := refD_fok op
  rw [hfm] at hf
  have hz : ob = false → fm = zeroF := fun e => by subst e; rw [← hfm]; exact refD_none hob
  obtain ⟨hop, hmost, hfx, hrs, _, _, _, _⟩ := hf
  obtain ⟨at0, ib, hfit⟩ : ∃ a b, fitsS op ks = (a, b) := ⟨_, _, rfl⟩
  refine run_seq ?_
  refine run_region ?_
  refine RunL.cons (Op1.assign (v := .bool _) rfl ?_)
  refine RunL.nil ?_
  refine run_seq ?_
  refine run_region ?_
  refine RunL.cons (Op1.move (v := .int .u16 _) rfl ?_)
  refine RunL.cons (Op1.move (v := .slice _ _ _) rfl ?_)
  refine RunL.cons (Op1.call2 (v1 := .int .u16 _) (v2 := .slice _ _ _) ent29 rfl rfl rfl ((R2gr_Fits3 h0 hfit _ _ _ rfl _ (hst.hD _ (.head _)) (by omega)).mono fun v w hp => ?_))
  obtain ⟨rfl, hp⟩ := hp
  replace hst := hst.keepc hp
  clear hp
  refine RunL.cons (Op1.move (v := .tuple #[.int .i64 _, .bool _]) rfl ?_)
  refine RunL.cons (Op1.extract (v := .int .i64 _) rfl rfl ?_)
  refine RunL.cons (Op1.extract (v := .bool _) rfl rfl ?_)
  refine RunL.cons (Op1.assign (v := .int .i64 _) rfl ?_)
  refine RunL.cons (Op1.assign (v := .bool _) rfl ?_)
  refine RunL.nil ?_
  refine run_seq ?_
  refine run_region ?_
  refine RunL.cons (Op1.move (v := .int .u16 _) rfl ?_)
  refine RunL.cons (Op1.call1 (v1 := .int .u16 _) ent19 rfl rfl ((R2gr_Of2 (by omega) hfm hob _).mono fun v w hp => ?_))
  obtain ⟨rfl, hp⟩ := hp
  replace hst := hst.keepc hp
  clear hp
  refine RunL.cons (Op1.move (v := .tuple #[.agg #[.int .u16 _, str _, .bool _, .bool _, str _, str _, .int .i64 _, .int .u8 _], .bool _]) rfl ?_)
  refine RunL.cons (Op1.extract (v := .agg #[.int .u16 _, str _, .bool _, .bool _, str _, str _, .int .i64 _, .int .u8 _]) rfl rfl ?_)
  refine RunL.cons (Op1.extract (v := .bool _) rfl rfl ?_)
  refine RunL.cons (Op1.alloc hst ty38 fun w b9 hst => ?_)
  refine RunL.cons (Op1.store (v := .agg #[.int .u16 _, str _, .bool _, .bool _, str _, str _, .int .i64 _, .int .u8 _]) hst ty38 rfl rfl rfl rfl rfl (.here) (by repeat (first | exact Put.nil | apply Put.put | apply Put.skip)) fun w hst => ?_)
  refine RunL.cons (Op1.assign (v := .bool _) rfl ?_)
  refine RunL.nil ?_
  refine run_seq ?_
  refine run_seq ?_
  refine run_region ?_
  refine RunL.cons (Op1.move (v := .bool _) rfl ?_)
  refine RunL.cons (Op1.move (v := .bool _) rfl ?_)
  refine RunL.split (d := 32) rfl (fun g1 => ?_) (fun g1 => ?_)
  · skip
    have hib : ib = true := g1
    subst hib
    have hobt := (fits_more hob hfm hfit).1
    refine RunL.take (t := 32) rfl (congrArg Value.bool g1) (Op1.move (v := .bool _) rfl ?_)
    refine RunL.take (t := 32) rfl (congrArg Value.bool g1) (Op1.not rfl ?_)
    refine RunL.cons (Op1.pickT (u := .bool _) (congrArg Value.bool g1) rfl ?_)
    refine RunL.nil ?_
    refine Run.forget [(0, .int .u16 _), (1, .slice _ _ _), (2, .slice _ _ _), (7, .int .i64 _), (8, .bool _), (9, .pointer (some ⟨_, _, none⟩)), (35, .bool _)] ⟨rfl, rfl, rfl, rfl, rfl, rfl, rfl, trivial⟩ (fun f => ?_)
    refine run_cond_split rfl (fun g2 => ?_) (fun g2 => ?_)
    · skip
      exfalso
      rw [hobt] at g2; simp at g2
    refine run_skip ?_
    refine run_seq ?_
    refine run_seq ?_
    refine run_region ?_
    refine RunL.cons (Op1.move (v := .bool _) rfl ?_)
    refine RunL.nil ?_
    refine run_cond_split rfl (fun g3 => ?_) (fun g3 => ?_)
    · skip
      refine run_seq ?_
      refine run_region ?_
      refine RunL.cons (Op1.makeSlV (k := 0) hst ty53 ty5 rfl rfl rfl (by decide) (by omega) (by omega) fun w bC hst => ?_)
      rw [show zerosOf [Value.int .u8 0] 0 = [] from rfl] at hst
      refine RunL.cons (Op1.assign (v := .slice _ _ _) rfl ?_)
      refine RunL.nil ?_
      refine run_seq ?_
      refine run_region ?_
      refine RunL.cons (Op1.move (v := .slice _ _ _) rfl ?_)
      refine RunL.cons (Op1.move (v := .slice _ _ _) rfl ?_)
      refine RunL.cons (Op1.appendRs hst ty53 ty5 rfl rfl (.here) rfl rfl (hst.hD _ (.head _)) (flat_ok (fun _ => rfl) _) rfl (by omega) fun w ao4 cp5 hst => ?_)
      rw [List.nil_append, Nat.zero_add ks.length] at hst
      rw [Nat.zero_add ks.length]
      refine RunL.cons (Op1.assign (v := .slice _ _ _) rfl ?_)
      refine RunL.nil ?_
      refine run_seq ?_
      refine run_seq ?_
      refine run_region ?_
      refine RunL.cons (Op1.assign (v := .int .i64 _) rfl ?_)
      refine RunL.nil ?_
      refine run_block ?_
      refine run_loop ?_
      refine Run.indW [(0, .int .u16 _), (1, .slice _ _ _), (2, .slice _ _ _), (7, .int .i64 _), (8, .bool _), (9, .pointer (some ⟨_, _, none⟩))] ⟨rfl, rfl, rfl, rfl, rfl, rfl, trivial⟩ (fun (q : Nat × Option Addr × Nat) => [(11, .slice q.2.1 (ks.length + q.1) q.2.2), (12, .int .i64 (q.1 : Int))]) (fun (q : Nat × Option Addr × Nat) => [Res.sl q.2.1 (ks.length + q.1) q.2.2 5 1 ((ks ++ (fm.rest.take q.1).map kindU).flatMap u8C)]) (fun (q : Nat × Option Addr × Nat) => q.1 ≤ fm.rest.length) (fun (q : Nat × Option Addr × Nat) => fm.rest.length - q.1) ((0, _, _)) (by (try dsimp only); rw [List.take_zero, List.map_nil, List.append_nil ks, Nat.add_zero]; exact hst) (Nat.zero_le _) ⟨rfl, rfl, trivial⟩ ?_
      intro ⟨i, aq, cq2⟩ f w hst hJ ih6
      replace hst : St _ _ ([Res.sl aq (ks.length + i) cq2 5 1 ((ks ++ (fm.rest.take i).map kindU).flatMap u8C)] ++ [_]) _ _ := hst
      replace hJ : i ≤ fm.rest.length := hJ
      refine Run.slots (sl := [(11, .slice aq (ks.length + i) cq2), (12, .int .i64 (i : Int))]) ⟨rfl, rfl, trivial⟩ ?_
      refine run_seq ?_
      refine run_seq ?_
      refine run_region ?_
      refine RunL.cons (Op1.move (v := .int .i64 _) rfl ?_)
      refine RunL.cons (Op1.fieldAddr fld38_5 rfl ?_)
      refine RunL.cons (Op1.load1 (v := str _) ty9 rfl rfl (hst.cellL (.tail _ (.head _)) rfl) ?_)
      refine RunL.cons (Op1.lenS (rest := []) ty9 rfl ?_)
      refine RunL.cons (Op1.lss rfl rfl ?_)
      refine RunL.nil ?_
      refine run_cond_dec rfl (fun g7 => ?_) (fun g7 => ?_)
      · skip
        refine run_skip ?_
        refine run_seq ?_
        refine run_block ?_
        refine run_region ?_
        refine RunL.cons (Op1.move (v := .slice _ _ _) rfl ?_)
        refine RunL.cons (Op1.fieldAddr fld38_5 rfl ?_)
        refine RunL.cons (Op1.load1 (v := str _) ty9 rfl rfl (hst.cellL (.tail _ (.head _)) rfl) ?_)
        refine RunL.cons (Op1.move (v := .int .i64 _) rfl ?_)
        refine RunL.cons (Op1.indexS ty9 rfl rfl (by omega) (by omega) ?_)
        refine RunL.cons (Op1.call1 (v1 := .int .u8 _) ent26 rfl rfl ((R2gr_Kind _ _).mono fun v w hp => ?_))
        obtain ⟨rfl, hp⟩ := hp
        replace hst := hst.keepc hp
        clear hp
        refine RunL.cons (Op1.buildSl (z0 := [.int .u8 0]) hst ty53 ty5 rfl rfl (by kernel_rfl) (.cons rfl (v := .int .u8 _) rfl rfl rfl rfl (by repeat (first | exact Put.nil | apply Put.put | apply Put.skip)) .nil) fun w b54 hst => ?_)
        refine RunL.cons (Op1.append (news := [.int .u8 _]) hst ty53 ty5 rfl rfl (.there (.here)) rfl rfl rfl (cells_of_obj (n := 1) (hst.objL (.head _)) _ rfl) rfl rfl (by omega) fun w ao8 cp9 hst => ?_)
        replace hst := hst.drop (.there (.here))
        refine RunL.cons (Op1.assign (v := .slice _ _ _) rfl ?_)
        refine RunL.nil ?_
        refine run_inBlock ?_
        refine run_region ?_
        refine RunL.cons (Op1.move (v := .int .i64 _) rfl ?_)
        refine RunL.cons (Op1.addN rfl rfl rfl (wrap_i64 (by omega) (by omega)) ?_)
        refine RunL.cons (Op1.assign (v := .int .i64 _) rfl ?_)
        refine RunL.nil ?_
        refine run_inLoop ?_
        exact ih6 ((i + 1, ao8, cp9)) _ w (by (try dsimp only); omega) (by (try dsimp only); rw [rows_step (by omega)]; exact hst) (by (try dsimp only); omega) ⟨rfl, rfl, rfl, rfl, rfl, rfl, trivial⟩ ⟨rfl, (congrArg (Value.int .i64) (by (try dsimp only); omega)), trivial⟩
      obtain rfl : i = fm.rest.length := by omega
      obtain ⟨kl, hkl, hkn⟩ : ∃ kl, ks ++ fm.rest.map kindU = kl ∧ kl.length = ks.length + fm.rest.length := ⟨_, rfl, by simp⟩
      rw [List.take_length, hkl, ← hkn] at hst
      have hmore := (fits_more hob hfm hfit).2
      rw [hkl] at hmore
      refine run_exit (id := 0) rfl ?_
      refine run_seq ?_
      refine run_region ?_
      refine RunL.cons (Op1.move (v := .int .u16 _) rfl ?_)
      refine RunL.cons (Op1.move (v := .slice _ _ _) rfl ?_)
      refine RunL.cons (Op1.call2 (v1 := .int .u16 _) (v2 := .slice _ _ _) ent29 rfl rfl rfl ((R2gr_Fits3 h0 rfl _ _ _ hkn.symm _ (Res.rs_of_sl (hst.hL _ (.head _))) (by omega)).mono fun v w hp => ?_))
      obtain ⟨rfl, hp⟩ := hp
      replace hst := hst.keepc hp
      clear hp
      refine RunL.cons (Op1.move (v := .tuple #[.int .i64 _, .bool _]) rfl ?_)
      refine RunL.cons (Op1.extract (v := .int .i64 _) rfl rfl ?_)
      refine RunL.cons (Op1.extract (v := .bool _) rfl rfl ?_)
      refine RunL.cons (Op1.assign (v := .int .i64 _) rfl ?_)
      refine RunL.cons (Op1.assign (v := .bool _) rfl ?_)
      refine RunL.nil ?_
      refine run_seq ?_
      refine run_region ?_
      refine RunL.cons (Op1.fieldAddr fld38_6 rfl ?_)
      refine RunL.cons (Op1.load1 (v := .int .i64 _) ty3 rfl rfl (hst.cellL (.tail _ (.head _)) rfl) ?_)
      refine RunL.cons (Op1.eql rfl rfl ?_)
      refine RunL.cons (Op1.move (v := .bool _) rfl ?_)
      refine RunL.splitD (d := 65) rfl (fun g10 => ?_) (fun g10 => ?_)
      · skip
        refine RunL.take (t := 65) rfl (congrArg Value.bool (decide_eq_true g10)) (Op1.move (v := .bool _) rfl ?_)
        refine RunL.take (t := 65) rfl (congrArg Value.bool (decide_eq_true g10)) (Op1.not rfl ?_)
        refine RunL.cons (Op1.pickT (u := .bool _) (congrArg Value.bool (decide_eq_true g10)) rfl ?_)
        refine RunL.nil ?_
        refine Run.forget [(0, .int .u16 _), (1, .slice _ _ _), (2, .slice _ _ _), (7, .int .i64 _), (8, .bool _), (68, .bool _)] ⟨rfl, rfl, rfl, rfl, rfl, rfl, trivial⟩ (fun f => ?_)
        refine run_cond_split rfl (fun g11 => ?_) (fun g11 => ?_)
        · skip
          exfalso
          rw [hmore g10] at g11; simp at g11
        refine run_skip ?_
        refine run_seq ?_
        refine run_seq ?_
        refine run_region ?_
        refine RunL.cons (Op1.move (v := .bool _) rfl ?_)
        refine RunL.cons (Op1.not rfl ?_)
        refine RunL.cons (Op1.move (v := .bool _) rfl ?_)
        refine RunL.split (d := 71) rfl (fun g12 => ?_) (fun g12 => ?_)
        · skip
          exfalso
          simp at g12
        refine RunL.omit (t := 71) rfl (congrArg Value.bool g12) rfl ?_
        refine RunL.omit (t := 71) rfl (congrArg Value.bool g12) rfl ?_
        refine RunL.omit (t := 71) rfl (congrArg Value.bool g12) rfl ?_
        refine RunL.omit (t := 71) rfl (congrArg Value.bool g12) rfl ?_
        refine RunL.cons (Op1.pickF (u := .bool _) (congrArg Value.bool g12) rfl ?_)
        refine RunL.nil ?_
        refine run_cond_false (congrArg Value.bool (rfl : false = _)) ?_
        refine run_skip ?_
        refine run_seq ?_
        refine run_region ?_
        refine RunL.cons (Op1.buildSl (z0 := [.int .u8 0, .int .u8 0]) hst ty53 ty5 rfl rfl (by kernel_rfl) (.cons rfl (v := .int .u8 _) rfl rfl rfl rfl (by repeat (first | exact Put.nil | apply Put.put | apply Put.skip)) (.cons rfl (v := .int .u8 _) rfl rfl rfl rfl (by repeat (first | exact Put.nil | apply Put.put | apply Put.skip)) .nil)) fun w b97 hst => ?_)
        refine RunL.cons (Op1.call2 (v1 := .int .u16 _) (v2 := .slice _ _ _) ent29 rfl rfl rfl ((R2gr_Fits3 (by decide) fits_128 _ _ 2 rfl _ (Res.rs_of_row (hst.hL _ (.head _)) rfl) (by decide)).mono fun v w hp => ?_))
        obtain ⟨rfl, hp⟩ := hp
        replace hst := hst.keepc hp
        clear hp
        refine RunL.cons (Op1.move (v := .tuple #[.int .i64 _, .bool _]) rfl ?_)
        refine RunL.cons (Op1.extract (v := .int .i64 _) rfl rfl ?_)
        refine RunL.cons (Op1.extract (v := .bool _) rfl rfl ?_)
        refine RunL.cons (Op1.assign (v := .int .i64 _) rfl ?_)
        refine RunL.cons (Op1.assign (v := .bool _) rfl ?_)
        refine RunL.nil ?_
        refine run_seq ?_
        refine run_region ?_
        refine RunL.cons (Op1.move (v := .int .i64 _) rfl ?_)
        refine RunL.cons (Op1.eql rfl rfl ?_)
        refine RunL.cons (Op1.move (v := .bool _) rfl ?_)
        refine RunL.splitD (d := 103) rfl (fun g13 => ?_) (fun g13 => ?_)
        · skip
          refine RunL.take (t := 103) rfl (congrArg Value.bool (decide_eq_true g13)) (Op1.move (v := .bool _) rfl ?_)
          refine RunL.cons (Op1.pickT (u := .bool _) (congrArg Value.bool (decide_eq_true g13)) rfl ?_)
          refine RunL.cons (Op1.assign (v := .bool _) rfl ?_)
          refine RunL.nil ?_
          refine run_ret1 Try.func10 rfl (RV.tmp (v := .bool _) rfl) ?_
          exact ⟨rfl, hst.pure⟩
        exfalso
        exact g13 rfl
      refine RunL.omit (t := 65) rfl (congrArg Value.bool (decide_eq_false g10)) rfl ?_
      refine RunL.omit (t := 65) rfl (congrArg Value.bool (decide_eq_false g10)) rfl ?_
      refine RunL.cons (Op1.pickF (u := .bool _) (congrArg Value.bool (decide_eq_false g10)) rfl ?_)
      refine RunL.nil ?_
      refine run_cond_false (congrArg Value.bool (rfl : false = _)) ?_
      refine run_skip ?_
      refine run_seq ?_
      refine run_seq ?_
      refine run_region ?_
      refine RunL.cons (Op1.move (v := .bool _) rfl ?_)
      refine RunL.cons (Op1.not rfl ?_)
      refine RunL.cons (Op1.move (v := .bool _) rfl ?_)
      refine RunL.split (d := 71) rfl (fun g14 => ?_) (fun g14 => ?_)
      · skip
        exfalso
        simp at g14
      refine RunL.omit (t := 71) rfl (congrArg Value.bool g14) rfl ?_
      refine RunL.omit (t := 71) rfl (congrArg Value.bool g14) rfl ?_
      refine RunL.omit (t := 71) rfl (congrArg Value.bool g14) rfl ?_
      refine RunL.omit (t := 71) rfl (congrArg Value.bool g14) rfl ?_
      refine RunL.cons (Op1.pickF (u := .bool _) (congrArg Value.bool g14) rfl ?_)
      refine RunL.nil ?_
      refine Run.forget [(0, .int .u16 _), (1, .slice _ _ _), (2, .slice _ _ _), (7, .int .i64 _), (76, .bool _)] ⟨rfl, rfl, rfl, rfl, rfl, trivial⟩ (fun f => ?_)
      refine run_cond_false (congrArg Value.bool (rfl : false = _)) ?_
      refine run_skip ?_
      refine run_seq ?_
      refine run_region ?_
      refine RunL.cons (Op1.buildSl (z0 := [.int .u8 0, .int .u8 0]) hst ty53 ty5 rfl rfl (by kernel_rfl) (.cons rfl (v := .int .u8 _) rfl rfl rfl rfl (by repeat (first | exact Put.nil | apply Put.put | apply Put.skip)) (.cons rfl (v := .int .u8 _) rfl rfl rfl rfl (by repeat (first | exact Put.nil | apply Put.put | apply Put.skip)) .nil)) fun w b97 hst => ?_)
      refine RunL.cons (Op1.call2 (v1 := .int .u16 _) (v2 := .slice _ _ _) ent29 rfl rfl rfl ((R2gr_Fits3 (by decide) fits_128 _ _ 2 rfl _ (Res.rs_of_row (hst.hL _ (.head _)) rfl) (by decide)).mono fun v w hp => ?_))
      obtain ⟨rfl, hp⟩ := hp
      replace hst := hst.keepc hp
      clear hp
      refine RunL.cons (Op1.move (v := .tuple #[.int .i64 _, .bool _]) rfl ?_)
      refine RunL.cons (Op1.extract (v := .int .i64 _) rfl rfl ?_)
      refine RunL.cons (Op1.extract (v := .bool _) rfl rfl ?_)
      refine RunL.cons (Op1.assign (v := .int .i64 _) rfl ?_)
      refine RunL.cons (Op1.assign (v := .bool _) rfl ?_)
      refine RunL.nil ?_
      refine run_seq ?_
      refine run_region ?_
      refine RunL.cons (Op1.move (v := .int .i64 _) rfl ?_)
      refine RunL.cons (Op1.eql rfl rfl ?_)
      refine RunL.cons (Op1.move (v := .bool _) rfl ?_)
      refine RunL.splitD (d := 103) rfl (fun g15 => ?_) (fun g15 => ?_)
      · skip
        refine RunL.take (t := 103) rfl (congrArg Value.bool (decide_eq_true g15)) (Op1.move (v := .bool _) rfl ?_)
        refine RunL.cons (Op1.pickT (u := .bool _) (congrArg Value.bool (decide_eq_true g15)) rfl ?_)
        refine RunL.cons (Op1.assign (v := .bool _) rfl ?_)
        refine RunL.nil ?_
        refine run_ret1 Try.func10 rfl (RV.tmp (v := .bool _) rfl) ?_
        exact ⟨rfl, hst.pure⟩
      exfalso
      exact g15 rfl
    exfalso
    simp at g3
  have hib : ib = false := g1
  subst hib
  refine RunL.omit (t := 32) rfl (congrArg Value.bool g1) rfl ?_
  refine RunL.omit (t := 32) rfl (congrArg Value.bool g1) rfl ?_
  refine RunL.cons (Op1.pickF (u := .bool _) (congrArg Value.bool g1) rfl ?_)
  refine RunL.nil ?_
  refine Run.forget [(0, .int .u16 _), (1, .slice _ _ _), (2, .slice _ _ _), (7, .int .i64 _), (8, .bool _), (9, .pointer (some ⟨_, _, none⟩)), (35, .bool _)] ⟨rfl, rfl, rfl, rfl, rfl, rfl, rfl, trivial⟩ (fun f => ?_)
  refine run_cond_false (congrArg Value.bool (rfl : false = _)) ?_
  refine run_skip ?_
  refine run_seq ?_
  refine run_seq ?_
  refine run_region ?_
  refine RunL.cons (Op1.move (v := .bool _) rfl ?_)
  refine RunL.nil ?_
  refine run_cond_split rfl (fun g16 => ?_) (fun g16 => ?_)
  · skip
    exfalso
    simp at g16
  refine run_skip ?_
  refine run_seq ?_
  refine run_seq ?_
  refine run_region ?_
  refine RunL.cons (Op1.move (v := .bool _) rfl ?_)
  refine RunL.cons (Op1.not rfl ?_)
  refine RunL.cons (Op1.move (v := .bool _) rfl ?_)
  refine RunL.split (d := 71) rfl (fun g17 => ?_) (fun g17 => ?_)
  · skip
    refine RunL.take (t := 71) rfl (congrArg Value.bool g17) (Op1.move (v := .int .i64 _) rfl ?_)
    refine RunL.take (t := 71) rfl (congrArg Value.bool g17) (Op1.move (v := .slice _ _ _) rfl ?_)
    refine RunL.take (t := 71) rfl (congrArg Value.bool g17) (Op1.lenSl (rest := []) ty53 rfl ?_)
    refine RunL.take (t := 71) rfl (congrArg Value.bool g17) (Op1.lss rfl rfl ?_)
    refine RunL.cons (Op1.pickT (u := .bool _) (congrArg Value.bool g17) rfl ?_)
    refine RunL.nil ?_
    refine run_cond_dec rfl (fun g18 => ?_) (fun g18 => ?_)
    · skip
      refine run_seq ?_
      refine run_region ?_
      refine RunL.cons (Op1.makeSlV (k := 0) hst ty53 ty5 rfl rfl rfl (by decide) (by omega) (by omega) fun w bC hst => ?_)
      rw [show zerosOf [Value.int .u8 0] 0 = [] from rfl] at hst
      refine RunL.cons (Op1.assign (v := .slice _ _ _) rfl ?_)
      refine RunL.nil ?_
      refine run_seq ?_
      refine run_region ?_
      refine RunL.cons (Op1.move (v := .slice _ _ _) rfl ?_)
      refine RunL.cons (Op1.move (v := .slice _ _ _) rfl ?_)
      refine RunL.cons (Op1.appendRs hst ty53 ty5 rfl rfl (.here) rfl rfl (hst.hD _ (.head _)) (flat_ok (fun _ => rfl) _) rfl (by omega) fun w ao19 cp20 hst => ?_)
      rw [List.nil_append, Nat.zero_add ks.length] at hst
      rw [Nat.zero_add ks.length]
      refine RunL.cons (Op1.assign (v := .slice _ _ _) rfl ?_)
      refine RunL.nil ?_
      refine run_seq ?_
      refine run_region ?_
      refine RunL.cons (Op1.move (v := .slice _ _ _) rfl ?_)
      refine RunL.cons (Op1.move (v := .slice _ _ _) rfl ?_)
      refine RunL.cons (Op1.appendRs hst ty53 ty5 rfl rfl (.here) rfl rfl (hst.hD _ (.tail _ (.head _))) (flat_ok (fun _ => rfl) _) rfl (by omega) fun w ao21 cp22 hst => ?_)
      obtain ⟨km, hkm, hkn⟩ : ∃ km, ks ++ ms = km ∧ km.length = ks.length + ms.length := ⟨_, rfl, by simp⟩
      rw [← List.flatMap_append, hkm, ← hkn] at hst
      rw [← hkn]
      have hbeh := fits_behind (ms := ms) hfit (by omega)
      rw [hkm] at hbeh
      refine RunL.cons (Op1.assign (v := .slice _ _ _) rfl ?_)
      refine RunL.nil ?_
      refine Run.forget [(0, .int .u16 _), (7, .int .i64 _), (15, .slice _ _ _)] ⟨rfl, rfl, rfl, trivial⟩ (fun f => ?_)
      refine run_seq ?_
      refine run_region ?_
      refine RunL.cons (Op1.move (v := .int .u16 _) rfl ?_)
      refine RunL.cons (Op1.move (v := .slice _ _ _) rfl ?_)
      refine RunL.cons (Op1.call2 (v1 := .int .u16 _) (v2 := .slice _ _ _) ent29 rfl rfl rfl ((R2gr_Fits3 h0 hbeh _ _ _ rfl _ (Res.rs_of_sl (hst.hL _ (.head _))) (by omega)).mono fun v w hp => ?_))
      obtain ⟨rfl, hp⟩ := hp
      replace hst := hst.keepc hp
      clear hp
      refine RunL.cons (Op1.move (v := .tuple #[.int .i64 _, .bool _]) rfl ?_)
      refine RunL.cons (Op1.extract (v := .int .i64 _) rfl rfl ?_)
      refine RunL.cons (Op1.extract (v := .bool _) rfl rfl ?_)
      refine RunL.cons (Op1.assign (v := .int .i64 _) rfl ?_)
      refine RunL.cons (Op1.assign (v := .bool _) rfl ?_)
      refine RunL.nil ?_
      refine run_seq ?_
      refine run_region ?_
      refine RunL.cons (Op1.move (v := .bool _) rfl ?_)
      refine RunL.cons (Op1.move (v := .bool _) rfl ?_)
      refine RunL.split (d := 91) rfl (fun g23 => ?_) (fun g23 => ?_)
      · skip
        exfalso
        simp at g23
      refine RunL.take (t := 91) rfl (congrArg Value.bool g23) (Op1.move (v := .int .i64 _) rfl ?_)
      refine RunL.take (t := 91) rfl (congrArg Value.bool g23) (Op1.move (v := .int .i64 _) rfl ?_)
      refine RunL.take (t := 91) rfl (congrArg Value.bool g23) (Op1.neq rfl rfl ?_)
      refine RunL.cons (Op1.pickF (u := .bool _) (congrArg Value.bool g23) rfl ?_)
      refine RunL.nil ?_
      refine run_cond_dec rfl (fun g24 => ?_) (fun g24 => ?_)
      · skip
        exfalso
        exact g24 rfl
      refine run_skip ?_
      refine run_seq ?_
      refine run_region ?_
      refine RunL.cons (Op1.buildSl (z0 := [.int .u8 0, .int .u8 0]) hst ty53 ty5 rfl rfl (by kernel_rfl) (.cons rfl (v := .int .u8 _) rfl rfl rfl rfl (by repeat (first | exact Put.nil | apply Put.put | apply Put.skip)) (.cons rfl (v := .int .u8 _) rfl rfl rfl rfl (by repeat (first | exact Put.nil | apply Put.put | apply Put.skip)) .nil)) fun w b97 hst => ?_)
      refine RunL.cons (Op1.call2 (v1 := .int .u16 _) (v2 := .slice _ _ _) ent29 rfl rfl rfl ((R2gr_Fits3 (by decide) fits_128 _ _ 2 rfl _ (Res.rs_of_row (hst.hL _ (.head _)) rfl) (by decide)).mono fun v w hp => ?_))
      obtain ⟨rfl, hp⟩ := hp
      replace hst := hst.keepc hp
      clear hp
      refine RunL.cons (Op1.move (v := .tuple #[.int .i64 _, .bool _]) rfl ?_)
      refine RunL.cons (Op1.extract (v := .int .i64 _) rfl rfl ?_)
      refine RunL.cons (Op1.extract (v := .bool _) rfl rfl ?_)
      refine RunL.cons (Op1.assign (v := .int .i64 _) rfl ?_)
      refine RunL.cons (Op1.assign (v := .bool _) rfl ?_)
      refine RunL.nil ?_
      refine Run.forget [(18, .int .i64 _), (19, .bool _)] ⟨rfl, rfl, trivial⟩ (fun f => ?_)
      refine run_seq ?_
      refine run_region ?_
      refine RunL.cons (Op1.move (v := .int .i64 _) rfl ?_)
      refine RunL.cons (Op1.eql rfl rfl ?_)
      refine RunL.cons (Op1.move (v := .bool _) rfl ?_)
      refine RunL.splitD (d := 103) rfl (fun g25 => ?_) (fun g25 => ?_)
      · skip
        refine RunL.take (t := 103) rfl (congrArg Value.bool (decide_eq_true g25)) (Op1.move (v := .bool _) rfl ?_)
        refine RunL.cons (Op1.pickT (u := .bool _) (congrArg Value.bool (decide_eq_true g25)) rfl ?_)
        refine RunL.cons (Op1.assign (v := .bool _) rfl ?_)
        refine RunL.nil ?_
        refine run_ret1 Try.func10 rfl (RV.tmp (v := .bool _) rfl) ?_
        exact ⟨rfl, hst.pure⟩
      exfalso
      exact g25 rfl
    refine run_skip ?_
    refine run_seq ?_
    refine run_region ?_
    refine RunL.cons (Op1.buildSl (z0 := [.int .u8 0, .int .u8 0]) hst ty53 ty5 rfl rfl (by kernel_rfl) (.cons rfl (v := .int .u8 _) rfl rfl rfl rfl (by repeat (first | exact Put.nil | apply Put.put | apply Put.skip)) (.cons rfl (v := .int .u8 _) rfl rfl rfl rfl (by repeat (first | exact Put.nil | apply Put.put | apply Put.skip)) .nil)) fun w b97 hst => ?_)
    refine RunL.cons (Op1.call2 (v1 := .int .u16 _) (v2 := .slice _ _ _) ent29 rfl rfl rfl ((R2gr_Fits3 (by decide) fits_128 _ _ 2 rfl _ (Res.rs_of_row (hst.hL _ (.head _)) rfl) (by decide)).mono fun v w hp => ?_))
    obtain ⟨rfl, hp⟩ := hp
    replace hst := hst.keepc hp
    clear hp
    refine RunL.cons (Op1.move (v := .tuple #[.int .i64 _, .bool _]) rfl ?_)
    refine RunL.cons (Op1.extract (v := .int .i64 _) rfl rfl ?_)
    refine RunL.cons (Op1.extract (v := .bool _) rfl rfl ?_)
    refine RunL.cons (Op1.assign (v := .int .i64 _) rfl ?_)
    refine RunL.cons (Op1.assign (v := .bool _) rfl ?_)
    refine RunL.nil ?_
    refine run_seq ?_
    refine run_region ?_
    refine RunL.cons (Op1.move (v := .int .i64 _) rfl ?_)
    refine RunL.cons (Op1.eql rfl rfl ?_)
    refine RunL.cons (Op1.move (v := .bool _) rfl ?_)
    refine RunL.splitD (d := 103) rfl (fun g26 => ?_) (fun g26 => ?_)
    · skip
      refine RunL.take (t := 103) rfl (congrArg Value.bool (decide_eq_true g26)) (Op1.move (v := .bool _) rfl ?_)
      refine RunL.cons (Op1.pickT (u := .bool _) (congrArg Value.bool (decide_eq_true g26)) rfl ?_)
      refine RunL.cons (Op1.assign (v := .bool _) rfl ?_)
      refine RunL.nil ?_
      refine run_ret1 Try.func10 rfl (RV.tmp (v := .bool _) rfl) ?_
      exact ⟨rfl, hst.pure⟩
    exfalso
    exact g26 rfl
  exfalso
  simp at g17

end Go.SK
