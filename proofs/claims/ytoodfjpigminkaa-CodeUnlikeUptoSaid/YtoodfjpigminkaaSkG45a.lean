/-
  Steps of functions, plain law, and walks of functions: what the laws rest on.
-/
import Derived.Test.YtoodfjpigminkaaSkG0d
import Derived.Test.YtoodfjpigminkaaSkG1a
import Derived.Test.YtoodfjpigminkaaSkG2a
import Derived.Test.YtoodfjpigminkaaSkG3a
import Derived.Test.YtoodfjpigminkaaSkG4a
import Derived.Test.YtoodfjpigminkaaSkG5a
import Derived.Test.YtoodfjpigminkaaSkG6a
import Derived.Test.YtoodfjpigminkaaSkG7a
import Derived.Test.YtoodfjpigminkaaSkG8a
import Derived.Test.YtoodfjpigminkaaSkG10a
import Derived.Test.YtoodfjpigminkaaSkG11a
import Derived.Test.YtoodfjpigminkaaSkG13a
import Derived.Test.YtoodfjpigminkaaSkG15a
import Derived.Test.YtoodfjpigminkaaSkG16a
import Derived.Test.YtoodfjpigminkaaSkG19a
import Derived.Test.YtoodfjpigminkaaSkG23a
import Derived.Test.YtoodfjpigminkaaSkG24a
import Derived.Test.YtoodfjpigminkaaSkG33a
import Derived.Test.YtoodfjpigminkaaSkG34a
set_option linter.unusedVariables false
set_option linter.unusedSimpArgs false
set_option linter.unusedSectionVars false
namespace Go.SK
open Go.RowKit
section
variable {P : Program} {ty : TypeId} {ρ : Operand → Value} {w : World} {C : Value → World → Prop} {T T2 : TypeId} {x y : Operand} {k : IntKind} {a b : Int}
theorem Op1.eqlB {s t : Bool} {sz bytes : Nat} {zs : List Value} (hT : TyF P T .bool sz bytes zs) (hx : ρ x = .bool s) (hy : ρ y = .bool t) (h : C (.bool (s == t)) w) : Op1 P (.binOp .eql T x y T2) ty ρ w C := by
  refine Op1.of (v := .bool (s == t)) (w' := w) ?_ h
  have hr : (Op.equal T (.bool s) (.bool t)).run P w = .ok (s == t) w := by
    show (Op.equalIn (9999 + 1) T (.bool s) (.bool t)).run P w = _
    rw [Op.equalIn]
    simp [Sem.run_bind, hT.run_und, Result.andThen]
  simp only [execOp, hx, hy, eqGuard]
  simp [binOp, hr, Result.andThen]
end
end Go.SK
namespace Go.SK
theorem encode_inj {g1 b1 g2 b2 : Int} {l1 l2 : List InstL} (hg1 : 0 ≤ g1 ∧ g1 < 4294967296) (hb1 : 0 ≤ b1 ∧ b1 < 4294967296) (ho1 : ∀ i ∈ l1, i.Okay) (h1 : (shapeF b1 l1).1 = 0) (hg2 : 0 ≤ g2 ∧ g2 < 4294967296) (hb2 : 0 ≤ b2 ∧ b2 < 4294967296) (ho2 : ∀ i ∈ l2, i.Okay) (h2 : (shapeF b2 l2).1 = 0) : (encodeF g1 b1 l1).1 = (encodeF g2 b2 l2).1 ↔ g1 = g2 ∧ b1 = b2 ∧ l1 = l2 := by
  constructor
  · intro h
    have e1 := (decode_encode hg1 hb1 ho1 h1).1
    have e2 := (decode_encode hg2 hb2 ho2 h2).1
    rw [h, e2] at e1
    simp only [Prod.mk.injEq, and_true] at e1
    exact ⟨e1.1.symm, e1.2.1.symm, e1.2.2.symm⟩
  · rintro ⟨rfl, rfl, rfl⟩; rfl
end Go.SK
namespace Go.SK
theorem enc_unlike {g1 b1 g2 b2 s1 a1 s2 a2 : Int} {l m : List InstP} {x y : List UInt8} (hg1 : 0 ≤ g1 ∧ g1 < 4294967296) (hb1 : 0 ≤ b1 ∧ b1 < 4294967296) (ho1 : ∀ i ∈ l.map InstP.L, i.Okay) (hg2 : 0 ≤ g2 ∧ g2 < 4294967296) (hb2 : 0 ≤ b2 ∧ b2 < 4294967296) (ho2 : ∀ i ∈ m.map InstP.L, i.Okay)
    (h1 : encodeF g1 b1 (l.map InstP.L) = (x, (s1, a1))) (h2 : encodeF g2 b2 (m.map InstP.L) = (y, (s2, a2))) (e1 : s1 = 0) (e2 : s2 = 0) : sameM g1 b1 l g2 b2 m = decide (x = y) := by
  have h := encode_inj hg1 hb1 ho1 (by rw [(enc_shape h1).1]; exact e1) hg2 hb2 ho2 (by rw [(enc_shape h2).1]; exact e2)
  rw [h1, h2] at h
  unfold sameM
  rw [decide_eq_decide]
  exact h.symm
end Go.SK
namespace Go.SK
open Go Go.Proofs
open Go.RowKit
theorem R3law_CodeUnlike (ga ba : Int) (l : List InstP) (ao : Option Addr) (cp : Nat) (gb bb : Int) (m : List InstP) (bo : Option Addr) (cq : Nat) (w : World) (hA1 : (Res.rmod ao l).holds w) (hs1 : Small l) (hgn1 : 0 ≤ ga ∧ ga < 4294967296) (hbd1 : 0 ≤ ba ∧ ba < 4294967296) (hok1 : ∀ i ∈ l.map InstP.L, i.Okay) (hA2 : (Res.rmod bo m).holds w) (hs2 : Small m) (hgn2 : 0 ≤ gb ∧ gb < 4294967296) (hbd2 : 0 ≤ bb ∧ bb < 4294967296) (hok2 : ∀ i ∈ m.map InstP.L, i.Okay) : Ret Try.prog 8 #[.agg #[.int .u32 ga, .int .u32 ba, .slice ao l.length cp], .agg #[.int .u32 gb, .int .u32 bb, .slice bo m.length cq]] w (fun v w' => v = .bool true ∧ St w NoM [] [] w') := by
 refine Ret.enter (args := [.agg #[.int .u32 ga, .int .u32 ba, .slice ao l.length cp], .agg #[.int .u32 gb, .int .u32 bb, .slice bo m.length cq]]) Try.func8 rfl rfl rfl ?_
 have hst : St w NoM [] [Res.rmod ao l, Res.rmod bo m] w := St.init_Ds (fun d hd => by cases hd with | head => exact hA1 | tail _ hd => cases hd with | head => exact hA2 | tail _ h => cases h)
 clear hA1 hA2
 obtain ⟨bs1, se1, sa1, hE1⟩ : ∃ bs se sa, encodeF ga ba (l.map InstP.L) = (bs, (se, sa)) := ⟨_, _, _, rfl⟩
 have hsh1 := enc_shape hE1
 obtain ⟨bs2, se2, sa2, hE2⟩ : ∃ bs se sa, encodeF gb bb (m.map InstP.L) = (bs, (se, sa)) := ⟨_, _, _, rfl⟩
 have hsh2 := enc_shape hE2
 refine SR <| CN <| Op1.box (v := .agg #[.int .u32 _, .int .u32 _, .slice _ _ _]) hst rfl rfl fun w b2 hst => CN <| Op1.box (v := .agg #[.int .u32 _, .int .u32 _, .slice _ _ _]) hst rfl rfl fun w b3 hst => AB rfl <| NSR <| CN <| Op1.loadA (vs := [.int .u32 _, .int .u32 _, .slice _ _ _]) ty26 rfl rfl rfl (cells_of_obj (n := 3) (hst.objL (.tail _ (.head _))) _ rfl) <| CN (Op1.call1 (v1 := .agg #[.int .u32 _, .int .u32 _, .slice _ _ _]) ent21 rfl rfl ((R3md_CopyModule _ _ l _ _ _ (hst.hD _ (.head _)) hs1.lenC hs1.laC).mono fun v w hp => ?_))
 obtain ⟨bM1, dM1, rfl, hdM1, hp⟩ := hp
 replace hst : St _ _ (_ :: _) _ _ := hst.call0 hp
 clear hp
 refine CN (Op1.call1 (v1 := .agg #[.int .u32 _, .int .u32 _, .slice _ _ _]) ent22 rfl rfl ((R3cd_EncodeD (bs := bs1) (se := se1) (sa := sa1) (by rw [hdM1]; exact hE1) _ _ _ (Res.rmod_of_omod (hst.hL _ (.head _))) (Small.of hdM1 hs1)).mono fun v w hp => ?_))
 obtain ⟨asX, rsX, rfl, hp⟩ := hp
 replace hst : St _ _ (_ :: _) _ _ := hst.call0 hp
 clear hp
 refine CN <| Op1.move (v := .tuple #[.slice _ _ _, .agg #[.int .i64 _, .int .i64 _]]) rfl <| CN <| Op1.extract (v := .slice _ _ _) rfl rfl <| CN <| Op1.extract (v := .agg #[.int .i64 _, .int .i64 _]) rfl rfl <| CN <| Op1.alloc hst ty29 fun w b6 hst => AL rfl <| CN (SO (v := .agg #[.int .i64 _, .int .i64 _]) hst ty29 rfl rfl (.here) fun w hst => ?_)
 refine NSR <| CN <| Op1.loadA (vs := [.int .u32 _, .int .u32 _, .slice _ _ _]) ty26 rfl rfl rfl (cells_of_obj (n := 3) (hst.objL (.tail _ (.tail _ (.tail _ (.head _))))) _ rfl) <| CN (Op1.call1 (v1 := .agg #[.int .u32 _, .int .u32 _, .slice _ _ _]) ent21 rfl rfl ((R3md_CopyModule _ _ m _ _ _ (hst.hD _ (.tail _ (.head _))) hs2.lenC hs2.laC).mono fun v w hp => ?_))
 obtain ⟨bM2, dM2, rfl, hdM2, hp⟩ := hp
 replace hst : St _ _ (_ :: _) _ _ := hst.call0 hp
 clear hp
 refine CN (Op1.call1 (v1 := .agg #[.int .u32 _, .int .u32 _, .slice _ _ _]) ent22 rfl rfl ((R3cd_EncodeD (bs := bs2) (se := se2) (sa := sa2) (by rw [hdM2]; exact hE2) _ _ _ (Res.rmod_of_omod (hst.hL _ (.head _))) (Small.of hdM2 hs2)).mono fun v w hp => ?_))
 obtain ⟨asY, rsY, rfl, hp⟩ := hp
 replace hst : St _ _ (_ :: _) _ _ := hst.call0 hp
 clear hp
 refine CN <| Op1.move (v := .tuple #[.slice _ _ _, .agg #[.int .i64 _, .int .i64 _]]) rfl <| CN <| Op1.extract (v := .slice _ _ _) rfl rfl <| CN <| Op1.extract (v := .agg #[.int .i64 _, .int .i64 _]) rfl rfl <| CN <| Op1.alloc hst ty29 fun w b8 hst => AL rfl <| CN (SO (v := .agg #[.int .i64 _, .int .i64 _]) hst ty29 rfl rfl (.here) fun w hst => ?_)
 refine NL <| Run.forget [(2, .pointer (some ⟨_, _, none⟩)), (3, .pointer (some ⟨_, _, none⟩)), (5, .slice _ _ _), (6, .pointer (some ⟨_, _, none⟩)), (7, .slice _ _ _), (8, .pointer (some ⟨_, _, none⟩))] ⟨rfl, rfl, rfl, rfl, rfl, rfl, trivial⟩ fun f => SQ <| SR <| CN <| Op1.fieldAddr fld29_0 rfl <| CN <| Op1.load1 (v := .int .i64 _) ty27 rfl rfl (hst.cellL (.tail _ (.tail _ (.tail _ (.head _)))) rfl) <| CN <| Op1.neq rfl rfl <| MB rfl <| RunL.splitD (d := 24) rfl (fun g1 => ?_) (fun g1 => ?_)
 · skip
   refine OM (t := 24) rfl (congrArg Value.bool (decide_eq_true g1)) rfl <| OM (t := 24) rfl (congrArg Value.bool (decide_eq_true g1)) rfl <| OM (t := 24) rfl (congrArg Value.bool (decide_eq_true g1)) rfl <| CN <| Op1.pickT (u := .bool _) (congrArg Value.bool (decide_eq_true g1)) rfl <| NL <| run_cond_true (congrArg Value.bool (rfl : true = _)) <| SR <| CN <| Op1.call0  ent19 rfl  <| Ret.det (R3law_awake _) hst fun w hst => AB rfl <| NL <| run_ret1 Try.func8 rfl (TP (v := .bool _) rfl) ?_
   exact ⟨rfl, hst.pure⟩
 refine TK (t := 24) rfl (congrArg Value.bool (decide_eq_false g1)) <| Op1.fieldAddr fld29_0 rfl <| TK (t := 24) rfl (congrArg Value.bool (decide_eq_false g1)) <| Op1.load1 (v := .int .i64 _) ty27 rfl rfl (hst.cellL (.head _) rfl) <| TK (t := 24) rfl (congrArg Value.bool (decide_eq_false g1)) <| Op1.neq rfl rfl <| CN <| Op1.pickF (u := .bool _) (congrArg Value.bool (decide_eq_false g1)) rfl <| NL <| run_cond_dec rfl (fun g2 => ?_) (fun g2 => ?_)
 · skip
   refine SR <| CN <| Op1.call0  ent19 rfl  <| Ret.det (R3law_awake _) hst fun w hst => AB rfl <| NL <| run_ret1 Try.func8 rfl (TP (v := .bool _) rfl) ?_
   exact ⟨rfl, hst.pure⟩
 have hun := enc_unlike hgn1 hbd1 hok1 hgn2 hbd2 hok2 hE1 hE2 (Classical.not_not.1 g1) (Classical.not_not.1 g2)
 refine run_skip <| SQ <| RunD.start [] hst (bs := [0, 0, 3, 0, 0, 31, 63, 127, 255, 511, 1023]) (ds := [some 30, some 31, some 32, some 33, some 34, some 35, some 36, some 37, some 38, some 39, some 4]) ⟨by kernel_rfl, by kernel_rfl, by kernel_rfl⟩ (fun tab3 => ?_)
 refine RunD.op (det _) tab3 1 (fun f' L' w' hc => Op1.move (v := .slice _ _ _) (hc.old (v := .slice _ _ _) rfl rfl rfl) ⟨[], ⟨rfl, rfl⟩, hc.st⟩) <| RunD.op (det _) tab3 2 (fun f' L' w' hc => Op1.move (v := .slice _ _ _) (hc.old (v := .slice _ _ _) rfl rfl rfl) ⟨[], ⟨rfl, rfl⟩, hc.st⟩) <| RunD.op (det _) tab3 3 (fun f' L' w' hc => Op1.call2 (v1 := .slice _ _ _) (v2 := .slice _ _ _) ent17 rfl (hc.det (j := 0) rfl rfl rfl rfl) (hc.det (j := 1) rfl rfl rfl rfl) ((R3wd_Bytes bs1 bs2 _ _ _ _ _ (Res.rs_of_sl (hc.st.hL _ (List.mem_append_right _ (.tail _ (.tail _ (.tail _ (.tail _ (.head _)))))))) (Res.rs_of_sl (hc.st.hL _ (List.mem_append_right _ (.tail _ (.head _))))) (enc_short hE1)).mono fun v w hp => ⟨[], ⟨hp.1, rfl⟩, hc.st.keepc hp.2⟩)) <| RunD.op (det _) tab3 4 (fun f' L' w' hc => Op1.loadA (vs := [.int .u32 _, .int .u32 _, .slice _ _ _]) ty26 rfl (hc.old (v := .pointer (some ⟨_, _, none⟩)) rfl rfl rfl) rfl (cells_of_obj (n := 3) (hc.st.objL (List.mem_append_right _ (.tail _ (.tail _ (.tail _ (.tail _ (.tail _ (.tail _ (.tail _ (.head _)))))))))) _ rfl) ⟨[], ⟨rfl, rfl⟩, hc.st⟩) <| RunD.op (det _) tab3 5 (fun f' L' w' hc => Op1.loadA (vs := [.int .u32 _, .int .u32 _, .slice _ _ _]) ty26 rfl (hc.old (v := .pointer (some ⟨_, _, none⟩)) rfl rfl rfl) rfl (cells_of_obj (n := 3) (hc.st.objL (List.mem_append_right _ (.tail _ (.tail _ (.tail _ (.tail _ (.tail _ (.tail _ (.head _))))))))) _ rfl) ⟨[], ⟨rfl, rfl⟩, hc.st⟩) <| RunD.fin followsMixed tab3 hst rfl (fun f4 w R7 hs5 hd6 hr8 hst => ?_)
 obtain ⟨h30_, r0⟩ := hd6 0 30 rfl rfl
 obtain ⟨h31_, r1⟩ := hd6 1 31 rfl rfl
 obtain ⟨h32_, r2⟩ := hd6 2 32 rfl rfl
 obtain ⟨h33_, r3⟩ := hd6 3 33 rfl rfl
 obtain ⟨h34_, r4⟩ := hd6 4 34 rfl rfl
 simp only [show List.range 5 = [0, 1, 2, 3, 4] from rfl, List.flatMap_cons, List.flatMap_nil, List.map_cons, List.map_nil, r0, r1, r2, r3, r4, List.nil_append, List.append_nil, List.cons_append] at hst
 refine RunL.slots (sl := [(32, .bool _), (33, .agg #[.int .u32 _, .int .u32 _, .slice _ _ _]), (34, .agg #[.int .u32 _, .int .u32 _, .slice _ _ _])]) ⟨h32_, h33_, h34_, trivial⟩ ?_
 clear hs5 hd6 hr8 tab3
 refine CN <| Op1.call2 (v1 := .agg #[.int .u32 _, .int .u32 _, .slice _ _ _]) (v2 := .agg #[.int .u32 _, .int .u32 _, .slice _ _ _]) ent16 rfl rfl rfl <| Ret.detE (R3md_Module _ _ _ _ l m _ _ _ _ _ (hst.hD _ (.head _)) (hst.hD _ (.tail _ (.head _))) hs1.len9 hs1.la9) (congrArg Value.bool hun) hst fun w hst => CN <| Op1.eqlB ty4 rfl rfl <| MB rfl <| RunL.split (d := 37) rfl (fun g9 => ?_) (fun g9 => ?_)
 · skip
   refine TK (t := 37) rfl (congrArg Value.bool g9) (Op1.call0  ent19 rfl  ((R3law_awake _).mono fun v w hp => ?_))
   obtain ⟨rfl, hp⟩ := hp
   replace hst := hst.keepc hp
   clear hp
   refine CN <| Op1.pickT (u := .bool _) (congrArg Value.bool g9) rfl <| AB rfl <| NL <| run_ret1 Try.func8 rfl (TP (v := .bool _) rfl) ?_
   exact ⟨rfl, hst.pure⟩
 exfalso
 simp at g9
end Go.SK
