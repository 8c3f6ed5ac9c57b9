/-
  Steps of functions, plain law, and walks of functions: what the laws rest on.
-/
import Derived.Test.YtoodfjpigminkaaSkG0d
import Derived.Test.YtoodfjpigminkaaSkG1a
import Derived.Test.YtoodfjpigminkaaSkG3a
import Derived.Test.YtoodfjpigminkaaSkG4a
import Derived.Test.YtoodfjpigminkaaSkG7a
import Derived.Test.YtoodfjpigminkaaSkG11a
import Derived.Test.YtoodfjpigminkaaSkG17a
import Derived.Test.YtoodfjpigminkaaSkG18a
import Derived.Test.YtoodfjpigminkaaSkG22a
set_option linter.unusedVariables false
set_option linter.unusedSimpArgs false
set_option linter.unusedSectionVars false
namespace Go.SK
theorem cpG_stepG {α : Type} {g : α → List Value} {es : Nat} (hg : ∀ a, (g a).length = es) {d : α} {l : List α} {i n : Nat} {x : List Value} (hi : i < l.length) (hn : i < n) (hx : x = g (l.getD i d)) : setSeg ((cpG d l n i).flatMap g) (0 + (i : Int).toNat * es) x = (cpG d l n (i + 1)).flatMap g := by
  subst hx
  rw [Nat.zero_add, Int.toNat_natCast, setSeg_flat hg _ _ _ (by simp [cpG]; omega), cpG_set hi hn]
theorem padded_split {s : List UInt8} (h : ¬ s.length / 4 + 1 > 65535) : splitE (padded s) = 0 ∧ splitL (padded s) = splitW (padded s) := by
  have he : splitE (padded s) = 0 := splitE_ok (by rw [padded_len]; omega) (by rw [padded_len]; omega)
  exact ⟨he, splitL_ok he⟩
end Go.SK
namespace Go.SK
open Go.RowKit Go.ChangeShapes Go.WideShapes Go.ChangeAt
section
variable {c bound : Int} {a : ArgP}
theorem argW_le (a : ArgP) : (argW a).length ≤ argRoom a := by
  by_cases h : a.kind = 3
  · rw [(argW_text h).1, (argW_text h).2]; exact ofText_le _
  · rw [(argW_one h).1, (argW_one h).2]; exact Nat.le_refl _
end
end Go.SK
namespace Go.SK
theorem wrongA_eq {c bound : Int} {a : ArgP} (h : ¬ (c = 0 ∨ a.kind ≠ kindS c)) (h2 : ¬ ((a.kind = 3 ∧ a.n ≠ 0) ∨ (a.kind ≠ 3 ∧ a.s ≠ []))) : wrongA c a bound = if a.kind = 1 ∧ (a.n = 0 ∨ a.n ≥ bound) then 43 else if a.kind = 4 ∧ (namesL.find? (enN c a.n)).isSome = false then 31 else textE a.s := by
  have e1 : (a.kind = 1 ∧ idE a.n bound ≠ 0) ↔ (a.kind = 1 ∧ (a.n = 0 ∨ a.n ≥ bound)) := by rw [idE_ne]
  have e2 : (a.kind = 4 ∧ enumE c a.n ≠ 0) ↔ (a.kind = 4 ∧ (namesL.find? (enN c a.n)).isSome = false) := by
    have : enumE c a.n ≠ 0 ↔ (namesL.find? (enN c a.n)).isSome = false := by
      rw [Ne, enumE_zero]; cases (namesL.find? (enN c a.n)).isSome <;> simp
    rw [this]
  unfold wrongA
  rw [if_neg h, if_neg h2]
  by_cases k1 : a.kind = 1 ∧ (a.n = 0 ∨ a.n ≥ bound)
  · rw [if_pos (e1.2 k1), if_pos k1]
  · rw [if_neg (fun x => k1 (e1.1 x)), if_neg k1]
    by_cases k4 : a.kind = 4 ∧ (namesL.find? (enN c a.n)).isSome = false
    · rw [if_pos (e2.2 k4), if_pos k4]
    · rw [if_neg (fun x => k4 (e2.1 x)), if_neg k4]; rfl
theorem textE_hit {s : List UInt8} {i : Nat} (hi : i < s.length) (hz : s.getD i 0 = 0) (hn : ∀ j, j < i → s.getD j 0 ≠ 0) : textE s = 13 := by
  unfold textE; rw [if_pos]; rw [zero_at hi hz hn]; omega
theorem textE_none {s : List UInt8} (hn : ∀ j, j < s.length → s.getD j 0 ≠ 0) : textE s = 0 := by
  unfold textE; rw [if_neg (fun h => h (zero_none hn))]
def wordsK (fm : FormL) (p : InstL) (k : Nat) : List Int := headW fm p.ty p.res ++ (p.args.take k).flatMap argW
theorem wordsK_step {fm : FormL} {p : InstL} {k : Nat} (hk : k < p.args.length) : wordsK fm p (k + 1) = wordsK fm p k ++ argW (p.args.getD k zeroA) := by
  unfold wordsK; rw [take_getD2 (d := zeroA) hk]; simp
theorem wordsK_len {fm : FormL} {p : InstL} {k : Nat} : (wordsK fm p k).length ≤ 2 + sumR p.args k := by
  unfold wordsK sumR
  have h1 : (headW fm p.ty p.res).length ≤ 2 := by unfold headW; split <;> split <;> simp
  have h2 : ∀ l : List ArgP, (l.flatMap argW).length ≤ (l.map argRoom).sum := by
    intro l
    induction l with
    | nil => simp
    | cons a l ih => have := argW_le a; simp only [List.flatMap_cons, List.length_append, List.map_cons, List.sum_cons]; omega
  have := h2 (p.args.take k)
  rw [List.length_append]; omega
theorem wordsK_all {fm : FormL} {p : InstL} : wordsK fm p p.args.length = wordsI fm p := by unfold wordsK wordsI; rw [List.take_length]
end Go.SK
namespace Go.SK
open Go Go.Proofs
open Go.RowKit
theorem R3ref1_Room (s : List UInt8) (w : World) (hl : s.length ≤ 9000000000000000000) : Ret Try.prog 93 #[str s] w (fun v w' => v = .int .i64 ((s.length / 4 + 1 : Nat) : Int) ∧ St w NoM [] [] w') := by
 refine Ret.enter (args := [str s]) Try.func93 rfl rfl rfl ?_
 have hst := St.init w
 refine SR <| AI rfl <| NSR <| MS rfl <| CN (Op1.lenS (rest := []) ty9 rfl ?_)
 first | refine CN (Op1.quoN rfl rfl (by omega) (by omega) rfl (wrap_i64 (by omega) (by omega)) ?_) | refine CN (Op1.quo rfl rfl (by omega) ?_)
 refine CN <| Op1.addN rfl rfl rfl (wrap_i64 (by omega) (by omega)) <| AI rfl <| NL <| run_ret1 Try.func93 rfl (TP (v := .int .i64 _) rfl) ?_
 exact ⟨congrArg (Value.int .i64) (by omega), hst.pure⟩
end Go.SK
namespace Go.SK
open Go Go.Proofs
theorem ent93 : Enters Try.prog 93 := ⟨Try.f93, _, Try.func93, by kernel_rfl, rfl⟩
end Go.SK
namespace Go.SK
open Go Go.Proofs
open Go.RowKit
theorem R3ref1_Split2 {b : List UInt8} {xs : List Value} {n : Nat} (ao : Option Addr) (cp : Nat) (w : World) (hn : n = b.length) (hx : xs = b.flatMap byC) (hA : (Res.rs ao n 1 xs).holds w) (hl : b.length ≤ 240000000000000) : Ret Try.prog 37 #[.slice ao n cp] w (fun v w' => ∃ ro rc, v = .tuple #[.slice ro (splitL b).length rc, .int .i64 (splitE b)] ∧ St w NoM [Res.sl ro (splitL b).length rc 23 1 ((splitL b).flatMap u32C)] [] w') := by
 subst hn; subst hx; exact R3ref1_Split b ao cp w hA hl
theorem R3ref1_OfText (s : List UInt8) (w : World) (hl : s.length ≤ 100000000000000) : Ret Try.prog 60 #[str s] w (fun v w' => ∃ ro rc, v = .tuple #[.slice ro (ofTextL s).length rc, .int .i64 (ofTextE s)] ∧ St w NoM [Res.sl ro (ofTextL s).length rc 23 1 ((ofTextL s).flatMap u32C)] [] w') := by
 refine Ret.enter (args := [str s]) Try.func60 rfl rfl rfl ?_
 have hst := St.init w
 refine SR <| AL rfl <| AI rfl <| NL <| SQ <| SR <| AI rfl <| NL <| run_block <| run_loop <| Run.indW [(0, str _)] ⟨rfl, trivial⟩ (fun (i : Nat) => [(4, .int .i64 (i : Int))]) (fun (i : Nat) => []) (fun (i : Nat) => i ≤ s.length ∧ ∀ r, r < i → s.getD r 0 ≠ 0) (fun (i : Nat) => s.length - i) (0) hst ⟨Nat.zero_le _, fun r hr => absurd hr (by omega)⟩ ⟨rfl, trivial⟩ ?_
 intro i f w hst hJ ih1
 refine SQ <| SR <| MI rfl <| MS rfl <| CN <| Op1.lenS (rest := []) ty9 rfl <| CN <| Op1.lss rfl rfl <| NL <| run_cond_dec rfl (fun g2 => ?_) (fun g2 => ?_)
 · skip
   refine run_skip <| SQ <| run_block <| SR <| MS rfl <| MI rfl <| CN <| Op1.indexS ty9 rfl rfl (by omega) (by omega) <| CN <| Op1.eql rfl rfl <| NL <| run_cond_dec rfl (fun g3 => ?_) (fun g3 => ?_)
   · skip
     refine SR <| AL rfl <| AI rfl <| NL <| run_ret2 Try.func60 rfl (TP (v := .slice _ _ _) rfl) (TP (v := .int .i64 _) rfl) ?_
     replace hst := hst.pick .nil
     have he := ofTextE_zero (by omega) g3 hJ.2
     rw [ofTextL_err (by rw [he]; decide), he]
     exact ⟨none, 0, rfl, (hst.pushNil 23 1).noD⟩
   refine run_skip <| run_inBlock <| RG <| MI rfl <| CN <| Op1.addN rfl rfl rfl (wrap_i64 (by omega) (by omega)) <| AI rfl <| NL <| run_inLoop ?_
   exact ih1 (i + 1) _ w (by omega) hst (⟨by omega, nz_step hJ.2 (byte1 g3)⟩) ⟨rfl, trivial⟩ ⟨(congrArg (Value.int .i64) (by omega)), trivial⟩
 refine run_exit (id := 0) rfl <| SQ <| SR <| MS rfl <| CN <| Op1.call1 (v1 := str _) ent93 rfl rfl <| Ret.det (R3ref1_Room s _ (by omega)) hst fun w hst => CN <| Op1.gtr rfl rfl <| NL <| run_cond_dec rfl (fun g4 => ?_) (fun g4 => ?_)
 · skip
   refine SR <| AL rfl <| AI rfl <| NL <| run_ret2 Try.func60 rfl (TP (v := .slice _ _ _) rfl) (TP (v := .int .i64 _) rfl) ?_
   replace hst := hst.pick .nil
   have he := ofTextE_large (s := s) (fun r hr => hJ.2 r (by omega)) (by omega)
   rw [ofTextL_err (by rw [he]; decide), he]
   exact ⟨none, 0, rfl, (hst.pushNil 23 1).noD⟩
 refine run_skip <| SR <| MS rfl <| CN <| Op1.call1 (v1 := str _) ent93 rfl rfl <| Ret.det (R3ref1_Room s _ (by omega)) hst fun w hst => ?_
 first | refine CN (Op1.mulN rfl rfl rfl (wrap_i64 (by omega) (by omega)) ?_) | refine CN (Op1.mulB rfl rfl (by omega) (by omega) (by omega) (by omega) (fun hm5 hm6 => ?_))
 refine CN (Op1.makeSlV (k := 4 * (s.length / 4 + 1)) hst ty22 ty5 rfl rfl rfl (by decide) (by omega) (by omega) fun w bC hst => ?_)
 rw [cpG_zero (g := byC) (d := (0 : UInt8)) (ez := [.int .u8 0]) rfl s] at hst
 refine AL rfl <| NL <| SQ <| SR <| AI rfl <| NL <| run_block <| run_loop <| Run.indW [(0, str _), (5, .slice _ _ _)] ⟨rfl, rfl, trivial⟩ (fun (i : Nat) => [(6, .int .i64 (i : Int))]) (fun (i : Nat) => [Res.sl (some ⟨bC, 0, none⟩) (4 * (s.length / 4 + 1)) (4 * (s.length / 4 + 1)) 5 1 ((cpG (0 : UInt8) s (4 * (s.length / 4 + 1)) i).flatMap byC)]) (fun (i : Nat) => i ≤ s.length) (fun (i : Nat) => s.length - i) (0) hst (Nat.zero_le _) ⟨rfl, trivial⟩ ?_
 intro i f w hst hK ih7
 refine SQ <| SR <| MI rfl <| MS rfl <| CN <| Op1.lenS (rest := []) ty9 rfl <| CN <| Op1.lss rfl rfl <| NL <| run_cond_dec rfl (fun g8 => ?_) (fun g8 => ?_)
 · skip
   refine run_skip <| SQ <| run_block <| RG <| ML rfl <| MI rfl <| MS rfl <| MI rfl <| CN <| Op1.indexS ty9 rfl rfl (by omega) (by omega) <| CN <| Op1.indexSl ty22 ty5 rfl rfl (by omega) (by omega) <| CN <| Op1.storeSl (v := .int .u8 _) hst ty5 rfl rfl rfl rfl rfl (.here) (by simp only [List.length_cons, List.length_nil]; omega) fun w hst => NL <| run_inBlock <| RG <| MI rfl ?_
   refine CN <| Op1.addN rfl rfl rfl (wrap_i64 (by omega) (by omega)) <| AI rfl <| NL <| run_inLoop ?_
   exact ih7 (i + 1) _ w (by omega) (by (try dsimp only); rw [← cpG_stepG (g := byC) (es := 1) byC_len (i := i) (x := byC (s.getD i 0)) (by omega) (by omega) rfl]; exact hst) (by omega) ⟨rfl, rfl, trivial⟩ ⟨(congrArg (Value.int .i64) (by omega)), trivial⟩
 have hi : i = s.length := by omega
 subst hi
 have hpd : cpG (0 : UInt8) s (4 * (s.length / 4 + 1)) s.length = padded s := rfl
 rw [hpd] at hst
 refine run_exit (id := 2) rfl <| SR <| ML rfl <| CN (Op1.call1 (v1 := .slice _ _ _) ent37 rfl rfl ((R3ref1_Split2 (b := padded s) _ _ _ (padded_len s).symm rfl (Res.rs_of_sl (hst.hL _ (.head _))) (by rw [padded_len]; omega)).mono fun v w hp => ?_))
 obtain ⟨rW, cW, rfl, hp⟩ := hp
 replace hst : St _ _ (_ :: _) _ _ := hst.call0 hp
 clear hp
 refine CN <| Op1.extract (v := .slice _ _ _) rfl rfl <| CN <| Op1.extract (v := .int .i64 _) rfl rfl <| AL rfl <| AI rfl <| NL <| run_ret2 Try.func60 rfl (TP (v := .slice _ _ _) rfl) (TP (v := .int .i64 _) rfl) ?_
 replace hst := hst.pick (.cons (.here) .nil)
 have he := ofTextE_ok (s := s) (fun r hr => hJ.2 r (by omega)) (by omega)
 rw [(padded_split (s := s) (by omega)).2, (padded_split (s := s) (by omega)).1] at *
 rw [ofTextL_ok he, he]
 exact ⟨_, _, rfl, hst.noD⟩
end Go.SK
namespace Go.SK
open Go Go.Proofs
open Go.RowKit
theorem R3ref4_Id (must : Bool) (n bound e : Int) (w : World) : Ret Try.prog 91 #[.bool must, .int .u32 n, .int .u32 bound, .int .i64 e] w (fun v w' => v = .int .i64 (idH must n bound e) ∧ St w NoM [] [] w') := by
 refine Ret.enter (args := [.bool must, .int .u32 n, .int .u32 bound, .int .i64 e]) Try.func91 rfl rfl rfl ?_
 have hst := St.init w
 refine SR <| AI rfl <| NL <| SQ <| SR <| MB rfl <| MU rfl <| CN <| Op1.neq rfl rfl <| CN <| Op1.neqB ty4 rfl rfl <| NL <| run_cond_split rfl (fun g1 => ?_) (fun g1 => ?_)
 · skip
   refine SR <| MI rfl <| AI rfl <| NL <| run_ret1 Try.func91 rfl (TP (v := .int .i64 _) rfl) ?_
   exact ⟨congrArg (Value.int .i64) (idH_lacks (bne_iff_ne.1 g1)).symm, hst.pure⟩
 refine run_skip <| SQ <| SR <| MB rfl <| MB rfl <| RunL.split (d := 15) rfl (fun g2 => ?_) (fun g2 => ?_)
 · skip
   refine TK (t := 15) rfl (congrArg Value.bool g2) <| Op1.move (v := .int .u32 _) rfl <| TK (t := 15) rfl (congrArg Value.bool g2) <| Op1.move (v := .int .u32 _) rfl <| TK (t := 15) rfl (congrArg Value.bool g2) <| Op1.geq rfl rfl <| CN <| Op1.pickT (u := .bool _) (congrArg Value.bool g2) rfl <| NL <| run_cond_dec rfl (fun g3 => ?_) (fun g3 => ?_)
   · skip
     refine SR <| AI rfl <| NL <| run_ret1 Try.func91 rfl (TP (v := .int .i64 _) rfl) ?_
     have hm : must = true := by simpa using g2
     exact ⟨congrArg (Value.int .i64) (by unfold idH; rw [if_neg (fun hx => by have hy := bne_iff_ne.2 hx; rw [g1] at hy; cases hy), if_pos ⟨hm, by omega⟩]), hst.pure⟩
   refine run_skip <| SR <| AI rfl <| NL <| run_ret1 Try.func91 rfl (TP (v := .int .i64 _) rfl) ?_
   have hm : must = true := by simpa using g2
   exact ⟨congrArg (Value.int .i64) (by unfold idH; rw [if_neg (fun hx => by have hy := bne_iff_ne.2 hx; rw [g1] at hy; cases hy), if_neg (fun h => by have := h.2; omega)]), hst.pure⟩
 refine OM (t := 15) rfl (congrArg Value.bool g2) rfl <| OM (t := 15) rfl (congrArg Value.bool g2) rfl <| OM (t := 15) rfl (congrArg Value.bool g2) rfl <| CN <| Op1.pickF (u := .bool _) (congrArg Value.bool g2) rfl <| NL <| run_cond_false (congrArg Value.bool (rfl : false = _)) <| run_skip <| SR <| AI rfl <| NL <| run_ret1 Try.func91 rfl (TP (v := .int .i64 _) rfl) ?_
 have hm : must = false := by simpa using g2
 exact ⟨congrArg (Value.int .i64) (idH_no (fun hx => by have hy := bne_iff_ne.2 hx; rw [g1] at hy; cases hy) hm).symm, hst.pure⟩
theorem R3ref4_Wrong (c : Int) (h0 : 0 ≤ c) (h1 : c ≤ 255) (a : ArgP) (hs : a.s.length ≤ 9000000000000000) (bound : Int) (w : World) : Ret Try.prog 92 #[.int .u8 c, .agg #[.int .u8 a.kind, .int .u32 a.n, str a.s], .int .u32 bound] w (fun v w' => v = .int .i64 (wrongA c a bound) ∧ St w NoM [] [] w') := by
 refine Ret.enter (args := [.int .u8 c, .agg #[.int .u8 a.kind, .int .u32 a.n, str a.s], .int .u32 bound]) Try.func92 rfl rfl rfl ?_
 have hst := St.init w
 obtain ⟨kd, hkd⟩ : ∃ kd, kindS c = kd := ⟨_, rfl⟩
 obtain ⟨o, ho⟩ : ∃ o, namesL.find? (enN c a.n) = o := ⟨_, rfl⟩
 refine SR <| CN <| Op1.box (v := .agg #[.int .u8 _, .int .u32 _, str _]) hst rfl rfl fun w b4 hst => AI rfl <| NL <| SQ <| SQ <| RunD.start [] hst (bs := [0, 1, 3, 7, 15, 7, 39, 127, 255]) (ds := [some 10, some 11, some 12, some 13, some 14, some 15, some 16, some 17, some 18]) ⟨by kernel_rfl, by kernel_rfl, by kernel_rfl⟩ (fun tab1 => ?_)
 refine RunD.op (det _) tab1 1 (fun f' L' w' hc => Op1.move (v := .int .u8 _) (hc.old (v := .int .u8 _) rfl rfl rfl) ⟨[], ⟨rfl, rfl⟩, hc.st⟩) <| RunD.op (det _) tab1 2 (fun f' L' w' hc => Op1.eql (hc.det (j := 0) rfl rfl rfl rfl) rfl ⟨[], ⟨rfl, rfl⟩, hc.st⟩) <| RunD.op (det _) tab1 3 (fun f' L' w' hc => Op1.move (v := .bool _) (hc.det (j := 1) rfl rfl rfl rfl) ⟨[], ⟨rfl, rfl⟩, hc.st⟩) <| RunD.splitD (j := 2) rfl (fun g2 => ?_) (fun g2 => ?_)
 · skip
   refine RunD.omit tab1 4 rfl rfl (fun f' L' w' hc => (hc.det (j := 2) rfl rfl rfl rfl).trans (congrArg Value.bool (decide_eq_true g2))) <| RunD.omit tab1 5 rfl rfl (fun f' L' w' hc => (hc.det (j := 2) rfl rfl rfl rfl).trans (congrArg Value.bool (decide_eq_true g2))) <| RunD.omit tab1 6 rfl rfl (fun f' L' w' hc => (hc.det (j := 2) rfl rfl rfl rfl).trans (congrArg Value.bool (decide_eq_true g2))) <| RunD.omit tab1 7 rfl rfl (fun f' L' w' hc => (hc.det (j := 2) rfl rfl rfl rfl).trans (congrArg Value.bool (decide_eq_true g2))) <| RunD.fin followsMixed tab1 hst rfl (fun f3 w R6 hs4 hd5 hr7 hst => ?_)
   obtain ⟨h10_, r0⟩ := hd5 0 10 rfl rfl
   obtain ⟨h11_, r1⟩ := hd5 1 11 rfl rfl
   obtain ⟨h12_, r2⟩ := hd5 2 12 rfl rfl
   obtain ⟨h13_, r3⟩ := hd5 3 13 rfl rfl
   obtain ⟨h14_, r4⟩ := hd5 4 14 rfl rfl
   obtain ⟨h15_, r5⟩ := hd5 5 15 rfl rfl
   obtain ⟨h16_, r6⟩ := hd5 6 16 rfl rfl
   simp only [show List.range 7 = [0, 1, 2, 3, 4, 5, 6] from rfl, List.flatMap_cons, List.flatMap_nil, List.map_cons, List.map_nil, r0, r1, r2, r3, r4, r5, r6, List.nil_append, List.append_nil, List.cons_append] at hst
   refine RunL.slots (sl := [(0, .int .u8 _), (2, .int .u32 _), (4, .pointer (some ⟨_, _, none⟩)), (12, .bool _), (14, _), (16, _)]) ⟨(hs4 0 rfl).trans rfl, (hs4 2 rfl).trans rfl, (hs4 4 rfl).trans rfl, h12_, h14_, h16_, trivial⟩ ?_
   clear hs4 hd5 hr7 tab1
   refine OM (t := 12) rfl (congrArg Value.bool (decide_eq_true g2)) rfl <| CN <| Op1.pickT (u := .bool _) (congrArg Value.bool (decide_eq_true g2)) rfl <| NL <| run_cond_true (congrArg Value.bool (rfl : true = _)) <| SR <| AI rfl <| NL <| run_ret1 Try.func92 rfl (TP (v := .int .i64 _) rfl) ?_
   exact ⟨congrArg (Value.int .i64) (wrongA_form (.inl (by omega))).symm, hst.pure⟩
 refine RunD.take (det _) tab1 4 rfl (fun f' L' w' hc => (hc.det (j := 2) rfl rfl rfl rfl).trans (congrArg Value.bool (decide_eq_false g2))) (fun f' L' w' hc => Op1.fieldAddr fld71_0 (hc.old (v := .pointer (some ⟨_, _, none⟩)) rfl rfl rfl) ⟨[], ⟨rfl, rfl⟩, hc.st⟩) <| RunD.take (det _) tab1 5 rfl (fun f' L' w' hc => (hc.det (j := 2) rfl rfl rfl rfl).trans (congrArg Value.bool (decide_eq_false g2))) (fun f' L' w' hc => Op1.load1 (v := .int .u8 _) ty5 rfl (hc.det (j := 3) rfl rfl rfl rfl) (hc.st.cellL (List.mem_append_right _ (.head _)) rfl) ⟨[], ⟨rfl, rfl⟩, hc.st⟩) <| RunD.take (det _) tab1 6 rfl (fun f' L' w' hc => (hc.det (j := 2) rfl rfl rfl rfl).trans (congrArg Value.bool (decide_eq_false g2))) (fun f' L' w' hc => Op1.move (v := .int .u8 _) (hc.old (v := .int .u8 _) rfl rfl rfl) ⟨[], ⟨rfl, rfl⟩, hc.st⟩) <| RunD.take (det _) tab1 7 rfl (fun f' L' w' hc => (hc.det (j := 2) rfl rfl rfl rfl).trans (congrArg Value.bool (decide_eq_false g2))) (fun f' L' w' hc => Op1.call1 (v1 := .int .u8 _) ent79 rfl (hc.det (j := 5) rfl rfl rfl rfl) ((R3ref_Kind2 hkd h0 h1 _).mono fun v w hp => ⟨[], ⟨hp.1, rfl⟩, hc.st.keepc hp.2⟩)) <| RunD.fin followsMixed tab1 hst rfl (fun f8 w R11 hs9 hd10 hr12 hst => ?_)
 obtain ⟨h10_, r0⟩ := hd10 0 10 rfl rfl
 obtain ⟨h11_, r1⟩ := hd10 1 11 rfl rfl
 obtain ⟨h12_, r2⟩ := hd10 2 12 rfl rfl
 obtain ⟨h13_, r3⟩ := hd10 3 13 rfl rfl
 obtain ⟨h14_, r4⟩ := hd10 4 14 rfl rfl
 obtain ⟨h15_, r5⟩ := hd10 5 15 rfl rfl
 obtain ⟨h16_, r6⟩ := hd10 6 16 rfl rfl
 simp only [show List.range 7 = [0, 1, 2, 3, 4, 5, 6] from rfl, List.flatMap_cons, List.flatMap_nil, List.map_cons, List.map_nil, r0, r1, r2, r3, r4, r5, r6, List.nil_append, List.append_nil, List.cons_append] at hst
 refine RunL.slots (sl := [(0, .int .u8 _), (2, .int .u32 _), (4, .pointer (some ⟨_, _, none⟩)), (12, .bool _), (14, .int .u8 _), (16, .int .u8 _)]) ⟨(hs9 0 rfl).trans rfl, (hs9 2 rfl).trans rfl, (hs9 4 rfl).trans rfl, h12_, h14_, h16_, trivial⟩ ?_
 clear hs9 hd10 hr12 tab1
 refine TK (t := 12) rfl (congrArg Value.bool (decide_eq_false g2)) <| Op1.neq rfl rfl <| CN <| Op1.pickF (u := .bool _) (congrArg Value.bool (decide_eq_false g2)) rfl <| NL <| run_cond_dec rfl (fun g13 => ?_) (fun g13 => ?_)
 · skip
   refine SR <| AI rfl <| NL <| run_ret1 Try.func92 rfl (TP (v := .int .i64 _) rfl) ?_
   exact ⟨congrArg (Value.int .i64) (wrongA_form (.inr (.inl (by rw [hkd]; omega)))).symm, hst.pure⟩
 refine run_skip <| SQ <| SR <| CN <| Op1.fieldAddr fld71_0 rfl <| CN <| Op1.load1 (v := .int .u8 _) ty5 rfl rfl (hst.cellL (.head _) rfl) <| CN <| Op1.eql rfl rfl <| MB rfl <| RunL.splitD (d := 22) rfl (fun g14 => ?_) (fun g14 => ?_)
 · skip
   refine TK (t := 22) rfl (congrArg Value.bool (decide_eq_true g14)) <| Op1.fieldAddr fld71_1 rfl <| TK (t := 22) rfl (congrArg Value.bool (decide_eq_true g14)) <| Op1.load1 (v := .int .u32 _) ty23 rfl rfl (hst.cellL (.head _) rfl) <| TK (t := 22) rfl (congrArg Value.bool (decide_eq_true g14)) <| Op1.neq rfl rfl <| CN <| Op1.pickT (u := .bool _) (congrArg Value.bool (decide_eq_true g14)) rfl <| MB rfl <| RunL.splitD (d := 27) rfl (fun g15 => ?_) (fun g15 => ?_)
   · skip
     refine OM (t := 27) rfl (congrArg Value.bool (decide_eq_true g15)) rfl <| OM (t := 27) rfl (congrArg Value.bool (decide_eq_true g15)) rfl <| OM (t := 27) rfl (congrArg Value.bool (decide_eq_true g15)) rfl <| OM (t := 27) rfl (congrArg Value.bool (decide_eq_true g15)) rfl <| RunL.omitU (t := 31) rfl rfl <| RunL.omitU (t := 31) rfl rfl <| RunL.omitU (t := 31) rfl rfl <| OM (t := 27) rfl (congrArg Value.bool (decide_eq_true g15)) rfl <| CN <| Op1.pickT (u := .bool _) (congrArg Value.bool (decide_eq_true g15)) rfl <| NL <| Run.forget [(0, .int .u8 _), (2, .int .u32 _), (4, .pointer (some ⟨_, _, none⟩)), (36, .bool _)] ⟨rfl, rfl, rfl, rfl, trivial⟩ fun f => run_cond_true (congrArg Value.bool (rfl : true = _)) <| SR <| AI rfl ?_
     refine NL <| run_ret1 Try.func92 rfl (TP (v := .int .i64 _) rfl) ?_
     exact ⟨congrArg (Value.int .i64) (wrongA_form (.inr (.inr (.inl ⟨by omega, by omega⟩)))).symm, hst.pure⟩
   refine TK (t := 27) rfl (congrArg Value.bool (decide_eq_false g15)) <| Op1.fieldAddr fld71_0 rfl <| TK (t := 27) rfl (congrArg Value.bool (decide_eq_false g15)) <| Op1.load1 (v := .int .u8 _) ty5 rfl rfl (hst.cellL (.head _) rfl) <| TK (t := 27) rfl (congrArg Value.bool (decide_eq_false g15)) <| Op1.neq rfl rfl <| TK (t := 27) rfl (congrArg Value.bool (decide_eq_false g15)) <| Op1.move (v := .bool _) rfl <| RunL.splitD (d := 31) rfl (fun g16 => ?_) (fun g16 => ?_)
   · skip
     refine TK (t := 31) rfl (congrArg Value.bool (decide_eq_true g16)) <| Op1.fieldAddr fld71_2 rfl <| TK (t := 31) rfl (congrArg Value.bool (decide_eq_true g16)) <| Op1.load1 (v := str _) ty9 rfl rfl (hst.cellL (.head _) rfl) <| TK (t := 31) rfl (congrArg Value.bool (decide_eq_true g16)) <| Op1.neqS rfl rfl <| TK (t := 27) rfl (congrArg Value.bool (decide_eq_false g15)) <| Op1.pickT (u := .bool _) (congrArg Value.bool (decide_eq_true g16)) rfl <| CN <| Op1.pickF (u := .bool _) (congrArg Value.bool (decide_eq_false g15)) rfl <| NL <| Run.forget [(0, .int .u8 _), (2, .int .u32 _), (4, .pointer (some ⟨_, _, none⟩)), (36, .bool _)] ⟨rfl, rfl, rfl, rfl, trivial⟩ fun f => run_cond_dec rfl (fun g17 => ?_) (fun g17 => ?_)
     · skip
       refine SR <| AI rfl <| NL <| run_ret1 Try.func92 rfl (TP (v := .int .i64 _) rfl) ?_
       exact ⟨congrArg (Value.int .i64) (wrongA_form (.inr (.inr (.inr ⟨by omega, by simpa using g17⟩)))).symm, hst.pure⟩
     refine run_skip <| SQ <| SR <| CN <| Op1.fieldAddr fld71_0 rfl <| CN <| Op1.load1 (v := .int .u8 _) ty5 rfl rfl (hst.cellL (.head _) rfl) <| CN <| Op1.eql rfl rfl <| MB rfl <| RunL.splitD (d := 40) rfl (fun g18 => ?_) (fun g18 => ?_)
     · skip
       refine TK (t := 40) rfl (congrArg Value.bool (decide_eq_true g18)) <| Op1.fieldAddr fld71_1 rfl <| TK (t := 40) rfl (congrArg Value.bool (decide_eq_true g18)) <| Op1.load1 (v := .int .u32 _) ty23 rfl rfl (hst.cellL (.head _) rfl) <| TK (t := 40) rfl (congrArg Value.bool (decide_eq_true g18)) <| Op1.move (v := .int .u32 _) rfl <| TK (t := 40) rfl (congrArg Value.bool (decide_eq_true g18)) (Op1.call2 (v1 := .int .u32 _) (v2 := .int .u32 _) ent78 rfl rfl rfl ((R3ref4_None _ _ _).mono fun v w hp => ?_))
       obtain ⟨rfl, hp⟩ := hp
       replace hst := hst.keepc hp
       clear hp
       refine CN <| Op1.pickT (u := .bool _) (congrArg Value.bool (decide_eq_true g18)) rfl <| NL <| run_cond_split rfl (fun g19 => ?_) (fun g19 => ?_)
       · skip
         refine SR <| AI rfl <| NL <| run_ret1 Try.func92 rfl (TP (v := .int .i64 _) rfl) ?_
         have hE := wrongA_eq (c := c) (a := a) (bound := bound) (fun h => h.elim (by omega) (fun h => h (by rw [hkd]; omega))) (fun h => h.elim (fun h => by have := h.2; omega) (fun h => absurd h.2 (by simpa using g17)))
         rw [if_pos ⟨by omega, by simpa using g19⟩] at hE
         exact ⟨congrArg (Value.int .i64) (hE).symm, hst.pure⟩
       refine run_skip <| SR <| MC rfl <| CN <| Op1.fieldAddr fld71_1 rfl <| CN <| Op1.load1 (v := .int .u32 _) ty23 rfl rfl (hst.cellL (.head _) rfl) <| CN <| Op1.call2 (v1 := .int .u8 _) (v2 := .int .u32 _) ent81 rfl rfl rfl <| Ret.det (R3ref_Enum2 ho _) hst fun w hst => CN <| Op1.move (v := .tuple #[str _, .bool _]) rfl <| CN <| Op1.extract (v := str _) rfl rfl <| CN <| Op1.extract (v := .bool _) rfl rfl <| AS rfl <| AB rfl <| NL <| SQ <| SQ ?_
       refine RG <| CN <| Op1.fieldAddr fld71_0 rfl <| CN <| Op1.load1 (v := .int .u8 _) ty5 rfl rfl (hst.cellL (.head _) rfl) <| CN <| Op1.eql rfl rfl <| MB rfl <| RunL.splitD (d := 56) rfl (fun g20 => ?_) (fun g20 => ?_)
       · skip
         refine TK (t := 56) rfl (congrArg Value.bool (decide_eq_true g20)) <| Op1.move (v := .bool _) rfl <| TK (t := 56) rfl (congrArg Value.bool (decide_eq_true g20)) <| Op1.not rfl <| CN <| Op1.pickT (u := .bool _) (congrArg Value.bool (decide_eq_true g20)) rfl <| NL <| Run.forget [(4, .pointer (some ⟨_, _, none⟩)), (59, .bool _)] ⟨rfl, rfl, trivial⟩ fun f => run_cond_split rfl (fun g21 => ?_) (fun g21 => ?_)
         · skip
           refine SR <| AI rfl <| NL <| run_ret1 Try.func92 rfl (TP (v := .int .i64 _) rfl) ?_
           have hE := wrongA_eq (c := c) (a := a) (bound := bound) (fun h => h.elim (by omega) (fun h => h (by rw [hkd]; omega))) (fun h => h.elim (fun h => by have := h.2; omega) (fun h => absurd h.2 (by simpa using g17)))
           rw [if_neg (fun h => absurd h.2 (of_decide_eq_false g19))] at hE
           rw [if_pos ⟨by omega, by rw [ho]; simpa using g21⟩] at hE
           exact ⟨congrArg (Value.int .i64) (hE).symm, hst.pure⟩
         refine run_skip <| SQ <| SR <| AI rfl <| NL <| run_block <| run_loop <| Run.indW [(4, .pointer (some ⟨_, _, none⟩))] ⟨rfl, trivial⟩ (fun (i : Nat) => [(9, .int .i64 (i : Int))]) (fun (i : Nat) => []) (fun (i : Nat) => i ≤ a.s.length ∧ ∀ j, j < i → a.s.getD j 0 ≠ 0) (fun (i : Nat) => a.s.length - i) (0) hst ⟨Nat.zero_le _, no_lt⟩ ⟨rfl, trivial⟩ ?_
         intro i f w hst hJ ih22
         refine SQ <| SR <| MI rfl <| CN <| Op1.fieldAddr fld71_2 rfl <| CN <| Op1.load1 (v := str _) ty9 rfl rfl (hst.cellL (.head _) rfl) <| CN <| Op1.lenS (rest := []) ty9 rfl <| CN <| Op1.lss rfl rfl <| NL <| run_cond_dec rfl (fun g23 => ?_) (fun g23 => ?_)
         · skip
           refine run_skip <| SQ <| run_block <| SR <| CN <| Op1.fieldAddr fld71_2 rfl <| CN <| Op1.load1 (v := str _) ty9 rfl rfl (hst.cellL (.head _) rfl) <| MI rfl <| CN <| Op1.indexS ty9 rfl rfl (by omega) (by omega) <| CN <| Op1.eql rfl rfl <| NL <| run_cond_dec rfl (fun g24 => ?_) (fun g24 => ?_)
           · skip
             refine SR <| AI rfl <| NL <| run_ret1 Try.func92 rfl (TP (v := .int .i64 _) rfl) ?_
             have hE := wrongA_eq (c := c) (a := a) (bound := bound) (fun h => h.elim (by omega) (fun h => h (by rw [hkd]; omega))) (fun h => h.elim (fun h => by have := h.2; omega) (fun h => absurd h.2 (by simpa using g17)))
             rw [if_neg (fun h => absurd h.2 (of_decide_eq_false g19))] at hE
             rw [if_neg (fun h => by have h2 := h.2; have hg := g21; rw [ho] at h2; rw [h2] at hg; cases hg)] at hE
             rw [textE_hit (i := i) (by omega) (byte0 (by have hg := g24; exact hg)) hJ.2] at hE
             exact ⟨congrArg (Value.int .i64) (hE).symm, hst.pure⟩
           refine run_skip <| run_inBlock <| RG <| MI rfl <| CN <| Op1.addN rfl rfl rfl (wrap_i64 (by omega) (by omega)) <| AI rfl <| NL <| run_inLoop ?_
           exact ih22 (i + 1) _ w (by omega) hst (⟨by omega, step_all hJ.2 (byte1 g24)⟩) ⟨rfl, trivial⟩ ⟨(congrArg (Value.int .i64) (by omega)), trivial⟩
         refine run_exit (id := 0) rfl <| SR <| AI rfl <| NL <| run_ret1 Try.func92 rfl (TP (v := .int .i64 _) rfl) ?_
         have hE := wrongA_eq (c := c) (a := a) (bound := bound) (fun h => h.elim (by omega) (fun h => h (by rw [hkd]; omega))) (fun h => h.elim (fun h => by have := h.2; omega) (fun h => absurd h.2 (by simpa using g17)))
         rw [if_neg (fun h => absurd h.2 (of_decide_eq_false g19))] at hE
         rw [if_neg (fun h => by have h2 := h.2; have hg := g21; rw [ho] at h2; rw [h2] at hg; cases hg)] at hE
         rw [textE_none (fun j hj => hJ.2 j (by omega))] at hE
         exact ⟨congrArg (Value.int .i64) (hE).symm, hst.pure⟩
       refine OM (t := 56) rfl (congrArg Value.bool (decide_eq_false g20)) rfl <| OM (t := 56) rfl (congrArg Value.bool (decide_eq_false g20)) rfl <| CN <| Op1.pickF (u := .bool _) (congrArg Value.bool (decide_eq_false g20)) rfl <| NL <| Run.forget [(4, .pointer (some ⟨_, _, none⟩)), (59, .bool _)] ⟨rfl, rfl, trivial⟩ fun f => run_cond_false (congrArg Value.bool (rfl : false = _)) <| run_skip <| SQ <| SR <| AI rfl <| NL <| run_block <| run_loop <| Run.indW [(4, .pointer (some ⟨_, _, none⟩))] ⟨rfl, trivial⟩ (fun (i : Nat) => [(9, .int .i64 (i : Int))]) (fun (i : Nat) => []) (fun (i : Nat) => i ≤ a.s.length ∧ ∀ j, j < i → a.s.getD j 0 ≠ 0) (fun (i : Nat) => a.s.length - i) (0) hst ⟨Nat.zero_le _, no_lt⟩ ⟨rfl, trivial⟩ ?_
       intro i f w hst hJ ih25
       refine SQ <| SR <| MI rfl <| CN <| Op1.fieldAddr fld71_2 rfl <| CN <| Op1.load1 (v := str _) ty9 rfl rfl (hst.cellL (.head _) rfl) <| CN <| Op1.lenS (rest := []) ty9 rfl <| CN <| Op1.lss rfl rfl <| NL <| run_cond_dec rfl (fun g26 => ?_) (fun g26 => ?_)
       · skip
         refine run_skip <| SQ <| run_block <| SR <| CN <| Op1.fieldAddr fld71_2 rfl <| CN <| Op1.load1 (v := str _) ty9 rfl rfl (hst.cellL (.head _) rfl) <| MI rfl <| CN <| Op1.indexS ty9 rfl rfl (by omega) (by omega) <| CN <| Op1.eql rfl rfl <| NL <| run_cond_dec rfl (fun g27 => ?_) (fun g27 => ?_)
         · skip
           refine SR <| AI rfl <| NL <| run_ret1 Try.func92 rfl (TP (v := .int .i64 _) rfl) ?_
           have hE := wrongA_eq (c := c) (a := a) (bound := bound) (fun h => h.elim (by omega) (fun h => h (by rw [hkd]; omega))) (fun h => h.elim (fun h => by have := h.2; omega) (fun h => absurd h.2 (by simpa using g17)))
           rw [if_neg (fun h => absurd h.2 (of_decide_eq_false g19))] at hE
           rw [if_neg (fun h => by have := h.1; omega)] at hE
           rw [textE_hit (i := i) (by omega) (byte0 (by have hg := g27; exact hg)) hJ.2] at hE
           exact ⟨congrArg (Value.int .i64) (hE).symm, hst.pure⟩
         refine run_skip <| run_inBlock <| RG <| MI rfl <| CN <| Op1.addN rfl rfl rfl (wrap_i64 (by omega) (by omega)) <| AI rfl <| NL <| run_inLoop ?_
         exact ih25 (i + 1) _ w (by omega) hst (⟨by omega, step_all hJ.2 (byte1 g27)⟩) ⟨rfl, trivial⟩ ⟨(congrArg (Value.int .i64) (by omega)), trivial⟩
       refine run_exit (id := 0) rfl <| SR <| AI rfl <| NL <| run_ret1 Try.func92 rfl (TP (v := .int .i64 _) rfl) ?_
       have hE := wrongA_eq (c := c) (a := a) (bound := bound) (fun h => h.elim (by omega) (fun h => h (by rw [hkd]; omega))) (fun h => h.elim (fun h => by have := h.2; omega) (fun h => absurd h.2 (by simpa using g17)))
       rw [if_neg (fun h => absurd h.2 (of_decide_eq_false g19))] at hE
       rw [if_neg (fun h => by have := h.1; omega)] at hE
       rw [textE_none (fun j hj => hJ.2 j (by omega))] at hE
       exact ⟨congrArg (Value.int .i64) (hE).symm, hst.pure⟩
     refine OM (t := 40) rfl (congrArg Value.bool (decide_eq_false g18)) rfl <| OM (t := 40) rfl (congrArg Value.bool (decide_eq_false g18)) rfl <| OM (t := 40) rfl (congrArg Value.bool (decide_eq_false g18)) rfl <| OM (t := 40) rfl (congrArg Value.bool (decide_eq_false g18)) rfl <| CN <| Op1.pickF (u := .bool _) (congrArg Value.bool (decide_eq_false g18)) rfl <| NL <| run_cond_false (congrArg Value.bool (rfl : false = _)) <| run_skip <| SR <| MC rfl <| CN <| Op1.fieldAddr fld71_1 rfl <| CN <| Op1.load1 (v := .int .u32 _) ty23 rfl rfl (hst.cellL (.head _) rfl) <| CN <| Op1.call2 (v1 := .int .u8 _) (v2 := .int .u32 _) ent81 rfl rfl rfl <| Ret.det (R3ref_Enum2 ho _) hst fun w hst => CN (Op1.move (v := .tuple #[str _, .bool _]) rfl ?_)
     refine CN <| Op1.extract (v := str _) rfl rfl <| CN <| Op1.extract (v := .bool _) rfl rfl <| AS rfl <| AB rfl <| NL <| SQ <| SR <| CN <| Op1.fieldAddr fld71_0 rfl <| CN <| Op1.load1 (v := .int .u8 _) ty5 rfl rfl (hst.cellL (.head _) rfl) <| CN <| Op1.eql rfl rfl <| MB rfl <| RunL.splitD (d := 56) rfl (fun g28 => ?_) (fun g28 => ?_)
     · skip
       refine TK (t := 56) rfl (congrArg Value.bool (decide_eq_true g28)) <| Op1.move (v := .bool _) rfl <| TK (t := 56) rfl (congrArg Value.bool (decide_eq_true g28)) <| Op1.not rfl <| CN <| Op1.pickT (u := .bool _) (congrArg Value.bool (decide_eq_true g28)) rfl <| NL <| Run.forget [(4, .pointer (some ⟨_, _, none⟩)), (59, .bool _)] ⟨rfl, rfl, trivial⟩ fun f => run_cond_split rfl (fun g29 => ?_) (fun g29 => ?_)
       · skip
         refine SR <| AI rfl <| NL <| run_ret1 Try.func92 rfl (TP (v := .int .i64 _) rfl) ?_
         have hE := wrongA_eq (c := c) (a := a) (bound := bound) (fun h => h.elim (by omega) (fun h => h (by rw [hkd]; omega))) (fun h => h.elim (fun h => by have := h.2; omega) (fun h => absurd h.2 (by simpa using g17)))
         rw [if_neg (fun h => by have := h.1; omega)] at hE
         rw [if_pos ⟨by omega, by rw [ho]; simpa using g29⟩] at hE
         exact ⟨congrArg (Value.int .i64) (hE).symm, hst.pure⟩
       refine run_skip <| SQ <| SR <| AI rfl <| NL <| run_block <| run_loop <| Run.indW [(4, .pointer (some ⟨_, _, none⟩))] ⟨rfl, trivial⟩ (fun (i : Nat) => [(9, .int .i64 (i : Int))]) (fun (i : Nat) => []) (fun (i : Nat) => i ≤ a.s.length ∧ ∀ j, j < i → a.s.getD j 0 ≠ 0) (fun (i : Nat) => a.s.length - i) (0) hst ⟨Nat.zero_le _, no_lt⟩ ⟨rfl, trivial⟩ ?_
       intro i f w hst hJ ih30
       refine SQ <| SR <| MI rfl <| CN <| Op1.fieldAddr fld71_2 rfl <| CN <| Op1.load1 (v := str _) ty9 rfl rfl (hst.cellL (.head _) rfl) <| CN <| Op1.lenS (rest := []) ty9 rfl <| CN <| Op1.lss rfl rfl <| NL <| run_cond_dec rfl (fun g31 => ?_) (fun g31 => ?_)
       · skip
         refine run_skip <| SQ <| run_block <| SR <| CN <| Op1.fieldAddr fld71_2 rfl <| CN <| Op1.load1 (v := str _) ty9 rfl rfl (hst.cellL (.head _) rfl) <| MI rfl <| CN <| Op1.indexS ty9 rfl rfl (by omega) (by omega) <| CN <| Op1.eql rfl rfl <| NL <| run_cond_dec rfl (fun g32 => ?_) (fun g32 => ?_)
         · skip
           refine SR <| AI rfl <| NL <| run_ret1 Try.func92 rfl (TP (v := .int .i64 _) rfl) ?_
           have hE := wrongA_eq (c := c) (a := a) (bound := bound) (fun h => h.elim (by omega) (fun h => h (by rw [hkd]; omega))) (fun h => h.elim (fun h => by have := h.2; omega) (fun h => absurd h.2 (by simpa using g17)))
           rw [if_neg (fun h => by have := h.1; omega)] at hE
           rw [if_neg (fun h => by have h2 := h.2; have hg := g29; rw [ho] at h2; rw [h2] at hg; cases hg)] at hE
           rw [textE_hit (i := i) (by omega) (byte0 (by have hg := g32; exact hg)) hJ.2] at hE
           exact ⟨congrArg (Value.int .i64) (hE).symm, hst.pure⟩
         refine run_skip <| run_inBlock <| RG <| MI rfl <| CN <| Op1.addN rfl rfl rfl (wrap_i64 (by omega) (by omega)) <| AI rfl <| NL <| run_inLoop ?_
         exact ih30 (i + 1) _ w (by omega) hst (⟨by omega, step_all hJ.2 (byte1 g32)⟩) ⟨rfl, trivial⟩ ⟨(congrArg (Value.int .i64) (by omega)), trivial⟩
       refine run_exit (id := 0) rfl <| SR <| AI rfl <| NL <| run_ret1 Try.func92 rfl (TP (v := .int .i64 _) rfl) ?_
       have hE := wrongA_eq (c := c) (a := a) (bound := bound) (fun h => h.elim (by omega) (fun h => h (by rw [hkd]; omega))) (fun h => h.elim (fun h => by have := h.2; omega) (fun h => absurd h.2 (by simpa using g17)))
       rw [if_neg (fun h => by have := h.1; omega)] at hE
       rw [if_neg (fun h => by have h2 := h.2; have hg := g29; rw [ho] at h2; rw [h2] at hg; cases hg)] at hE
       rw [textE_none (fun j hj => hJ.2 j (by omega))] at hE
       exact ⟨congrArg (Value.int .i64) (hE).symm, hst.pure⟩
     refine OM (t := 56) rfl (congrArg Value.bool (decide_eq_false g28)) rfl <| OM (t := 56) rfl (congrArg Value.bool (decide_eq_false g28)) rfl <| CN <| Op1.pickF (u := .bool _) (congrArg Value.bool (decide_eq_false g28)) rfl <| NL <| Run.forget [(4, .pointer (some ⟨_, _, none⟩)), (59, .bool _)] ⟨rfl, rfl, trivial⟩ fun f => run_cond_false (congrArg Value.bool (rfl : false = _)) <| run_skip <| SQ <| SR <| AI rfl <| NL <| run_block <| run_loop <| Run.indW [(4, .pointer (some ⟨_, _, none⟩))] ⟨rfl, trivial⟩ (fun (i : Nat) => [(9, .int .i64 (i : Int))]) (fun (i : Nat) => []) (fun (i : Nat) => i ≤ a.s.length ∧ ∀ j, j < i → a.s.getD j 0 ≠ 0) (fun (i : Nat) => a.s.length - i) (0) hst ⟨Nat.zero_le _, no_lt⟩ ⟨rfl, trivial⟩ ?_
     intro i f w hst hJ ih33
     refine SQ <| SR <| MI rfl <| CN <| Op1.fieldAddr fld71_2 rfl <| CN <| Op1.load1 (v := str _) ty9 rfl rfl (hst.cellL (.head _) rfl) <| CN <| Op1.lenS (rest := []) ty9 rfl <| CN <| Op1.lss rfl rfl <| NL <| run_cond_dec rfl (fun g34 => ?_) (fun g34 => ?_)
     · skip
       refine run_skip <| SQ <| run_block <| SR <| CN <| Op1.fieldAddr fld71_2 rfl <| CN <| Op1.load1 (v := str _) ty9 rfl rfl (hst.cellL (.head _) rfl) <| MI rfl <| CN <| Op1.indexS ty9 rfl rfl (by omega) (by omega) <| CN <| Op1.eql rfl rfl <| NL <| run_cond_dec rfl (fun g35 => ?_) (fun g35 => ?_)
       · skip
         refine SR <| AI rfl <| NL <| run_ret1 Try.func92 rfl (TP (v := .int .i64 _) rfl) ?_
         have hE := wrongA_eq (c := c) (a := a) (bound := bound) (fun h => h.elim (by omega) (fun h => h (by rw [hkd]; omega))) (fun h => h.elim (fun h => by have := h.2; omega) (fun h => absurd h.2 (by simpa using g17)))
         rw [if_neg (fun h => by have := h.1; omega)] at hE
         rw [if_neg (fun h => by have := h.1; omega)] at hE
         rw [textE_hit (i := i) (by omega) (byte0 (by have hg := g35; exact hg)) hJ.2] at hE
         exact ⟨congrArg (Value.int .i64) (hE).symm, hst.pure⟩
       refine run_skip <| run_inBlock <| RG <| MI rfl <| CN <| Op1.addN rfl rfl rfl (wrap_i64 (by omega) (by omega)) <| AI rfl <| NL <| run_inLoop ?_
       exact ih33 (i + 1) _ w (by omega) hst (⟨by omega, step_all hJ.2 (byte1 g35)⟩) ⟨rfl, trivial⟩ ⟨(congrArg (Value.int .i64) (by omega)), trivial⟩
     refine run_exit (id := 0) rfl <| SR <| AI rfl <| NL <| run_ret1 Try.func92 rfl (TP (v := .int .i64 _) rfl) ?_
     have hE := wrongA_eq (c := c) (a := a) (bound := bound) (fun h => h.elim (by omega) (fun h => h (by rw [hkd]; omega))) (fun h => h.elim (fun h => by have := h.2; omega) (fun h => absurd h.2 (by simpa using g17)))
     rw [if_neg (fun h => by have := h.1; omega)] at hE
     rw [if_neg (fun h => by have := h.1; omega)] at hE
     rw [textE_none (fun j hj => hJ.2 j (by omega))] at hE
     exact ⟨congrArg (Value.int .i64) (hE).symm, hst.pure⟩
   refine OM (t := 31) rfl (congrArg Value.bool (decide_eq_false g16)) rfl <| OM (t := 31) rfl (congrArg Value.bool (decide_eq_false g16)) rfl <| OM (t := 31) rfl (congrArg Value.bool (decide_eq_false g16)) rfl <| TK (t := 27) rfl (congrArg Value.bool (decide_eq_false g15)) <| Op1.pickF (u := .bool _) (congrArg Value.bool (decide_eq_false g16)) rfl <| CN <| Op1.pickF (u := .bool _) (congrArg Value.bool (decide_eq_false g15)) rfl <| NL <| Run.forget [(0, .int .u8 _), (2, .int .u32 _), (4, .pointer (some ⟨_, _, none⟩)), (36, .bool _)] ⟨rfl, rfl, rfl, rfl, trivial⟩ fun f => run_cond_false (congrArg Value.bool (rfl : false = _)) <| run_skip <| SQ <| SR <| CN <| Op1.fieldAddr fld71_0 rfl <| CN <| Op1.load1 (v := .int .u8 _) ty5 rfl rfl (hst.cellL (.head _) rfl) <| CN (Op1.eql rfl rfl ?_)
   refine MB rfl <| RunL.splitD (d := 40) rfl (fun g36 => ?_) (fun g36 => ?_)
   · skip
     refine TK (t := 40) rfl (congrArg Value.bool (decide_eq_true g36)) <| Op1.fieldAddr fld71_1 rfl <| TK (t := 40) rfl (congrArg Value.bool (decide_eq_true g36)) <| Op1.load1 (v := .int .u32 _) ty23 rfl rfl (hst.cellL (.head _) rfl) <| TK (t := 40) rfl (congrArg Value.bool (decide_eq_true g36)) <| Op1.move (v := .int .u32 _) rfl <| TK (t := 40) rfl (congrArg Value.bool (decide_eq_true g36)) (Op1.call2 (v1 := .int .u32 _) (v2 := .int .u32 _) ent78 rfl rfl rfl ((R3ref4_None _ _ _).mono fun v w hp => ?_))
     obtain ⟨rfl, hp⟩ := hp
     replace hst := hst.keepc hp
     clear hp
     refine CN <| Op1.pickT (u := .bool _) (congrArg Value.bool (decide_eq_true g36)) rfl <| NL <| run_cond_split rfl (fun g37 => ?_) (fun g37 => ?_)
     · skip
       refine SR <| AI rfl <| NL <| run_ret1 Try.func92 rfl (TP (v := .int .i64 _) rfl) ?_
       have hE := wrongA_eq (c := c) (a := a) (bound := bound) (fun h => h.elim (by omega) (fun h => h (by rw [hkd]; omega))) (fun h => h.elim (fun h => by have := h.2; omega) (fun h => h.1 (by omega)))
       rw [if_pos ⟨by omega, by simpa using g37⟩] at hE
       exact ⟨congrArg (Value.int .i64) (hE).symm, hst.pure⟩
     refine run_skip <| SR <| MC rfl <| CN <| Op1.fieldAddr fld71_1 rfl <| CN <| Op1.load1 (v := .int .u32 _) ty23 rfl rfl (hst.cellL (.head _) rfl) <| CN <| Op1.call2 (v1 := .int .u8 _) (v2 := .int .u32 _) ent81 rfl rfl rfl <| Ret.det (R3ref_Enum2 ho _) hst fun w hst => CN <| Op1.move (v := .tuple #[str _, .bool _]) rfl <| CN <| Op1.extract (v := str _) rfl rfl <| CN <| Op1.extract (v := .bool _) rfl rfl <| AS rfl <| AB rfl <| NL <| SQ <| SQ ?_
     refine RG <| CN <| Op1.fieldAddr fld71_0 rfl <| CN <| Op1.load1 (v := .int .u8 _) ty5 rfl rfl (hst.cellL (.head _) rfl) <| CN <| Op1.eql rfl rfl <| MB rfl <| RunL.splitD (d := 56) rfl (fun g38 => ?_) (fun g38 => ?_)
     · skip
       refine TK (t := 56) rfl (congrArg Value.bool (decide_eq_true g38)) <| Op1.move (v := .bool _) rfl <| TK (t := 56) rfl (congrArg Value.bool (decide_eq_true g38)) <| Op1.not rfl <| CN <| Op1.pickT (u := .bool _) (congrArg Value.bool (decide_eq_true g38)) rfl <| NL <| Run.forget [(4, .pointer (some ⟨_, _, none⟩)), (59, .bool _)] ⟨rfl, rfl, trivial⟩ fun f => run_cond_split rfl (fun g39 => ?_) (fun g39 => ?_)
       · skip
         refine SR <| AI rfl <| NL <| run_ret1 Try.func92 rfl (TP (v := .int .i64 _) rfl) ?_
         have hE := wrongA_eq (c := c) (a := a) (bound := bound) (fun h => h.elim (by omega) (fun h => h (by rw [hkd]; omega))) (fun h => h.elim (fun h => by have := h.2; omega) (fun h => h.1 (by omega)))
         rw [if_neg (fun h => absurd h.2 (of_decide_eq_false g37))] at hE
         rw [if_pos ⟨by omega, by rw [ho]; simpa using g39⟩] at hE
         exact ⟨congrArg (Value.int .i64) (hE).symm, hst.pure⟩
       refine run_skip <| SQ <| SR <| AI rfl <| NL <| run_block <| run_loop <| Run.indW [(4, .pointer (some ⟨_, _, none⟩))] ⟨rfl, trivial⟩ (fun (i : Nat) => [(9, .int .i64 (i : Int))]) (fun (i : Nat) => []) (fun (i : Nat) => i ≤ a.s.length ∧ ∀ j, j < i → a.s.getD j 0 ≠ 0) (fun (i : Nat) => a.s.length - i) (0) hst ⟨Nat.zero_le _, no_lt⟩ ⟨rfl, trivial⟩ ?_
       intro i f w hst hJ ih40
       refine SQ <| SR <| MI rfl <| CN <| Op1.fieldAddr fld71_2 rfl <| CN <| Op1.load1 (v := str _) ty9 rfl rfl (hst.cellL (.head _) rfl) <| CN <| Op1.lenS (rest := []) ty9 rfl <| CN <| Op1.lss rfl rfl <| NL <| run_cond_dec rfl (fun g41 => ?_) (fun g41 => ?_)
       · skip
         refine run_skip <| SQ <| run_block <| SR <| CN <| Op1.fieldAddr fld71_2 rfl <| CN <| Op1.load1 (v := str _) ty9 rfl rfl (hst.cellL (.head _) rfl) <| MI rfl <| CN <| Op1.indexS ty9 rfl rfl (by omega) (by omega) <| CN <| Op1.eql rfl rfl <| NL <| run_cond_dec rfl (fun g42 => ?_) (fun g42 => ?_)
         · skip
           refine SR <| AI rfl <| NL <| run_ret1 Try.func92 rfl (TP (v := .int .i64 _) rfl) ?_
           have hE := wrongA_eq (c := c) (a := a) (bound := bound) (fun h => h.elim (by omega) (fun h => h (by rw [hkd]; omega))) (fun h => h.elim (fun h => by have := h.2; omega) (fun h => h.1 (by omega)))
           rw [if_neg (fun h => absurd h.2 (of_decide_eq_false g37))] at hE
           rw [if_neg (fun h => by have h2 := h.2; have hg := g39; rw [ho] at h2; rw [h2] at hg; cases hg)] at hE
           rw [textE_hit (i := i) (by omega) (byte0 (by have hg := g42; exact hg)) hJ.2] at hE
           exact ⟨congrArg (Value.int .i64) (hE).symm, hst.pure⟩
         refine run_skip <| run_inBlock <| RG <| MI rfl <| CN <| Op1.addN rfl rfl rfl (wrap_i64 (by omega) (by omega)) <| AI rfl <| NL <| run_inLoop ?_
         exact ih40 (i + 1) _ w (by omega) hst (⟨by omega, step_all hJ.2 (byte1 g42)⟩) ⟨rfl, trivial⟩ ⟨(congrArg (Value.int .i64) (by omega)), trivial⟩
       refine run_exit (id := 0) rfl <| SR <| AI rfl <| NL <| run_ret1 Try.func92 rfl (TP (v := .int .i64 _) rfl) ?_
       have hE := wrongA_eq (c := c) (a := a) (bound := bound) (fun h => h.elim (by omega) (fun h => h (by rw [hkd]; omega))) (fun h => h.elim (fun h => by have := h.2; omega) (fun h => h.1 (by omega)))
       rw [if_neg (fun h => absurd h.2 (of_decide_eq_false g37))] at hE
       rw [if_neg (fun h => by have h2 := h.2; have hg := g39; rw [ho] at h2; rw [h2] at hg; cases hg)] at hE
       rw [textE_none (fun j hj => hJ.2 j (by omega))] at hE
       exact ⟨congrArg (Value.int .i64) (hE).symm, hst.pure⟩
     refine OM (t := 56) rfl (congrArg Value.bool (decide_eq_false g38)) rfl <| OM (t := 56) rfl (congrArg Value.bool (decide_eq_false g38)) rfl <| CN <| Op1.pickF (u := .bool _) (congrArg Value.bool (decide_eq_false g38)) rfl <| NL <| Run.forget [(4, .pointer (some ⟨_, _, none⟩)), (59, .bool _)] ⟨rfl, rfl, trivial⟩ fun f => run_cond_false (congrArg Value.bool (rfl : false = _)) <| run_skip <| SQ <| SR <| AI rfl <| NL <| run_block <| run_loop <| Run.indW [(4, .pointer (some ⟨_, _, none⟩))] ⟨rfl, trivial⟩ (fun (i : Nat) => [(9, .int .i64 (i : Int))]) (fun (i : Nat) => []) (fun (i : Nat) => i ≤ a.s.length ∧ ∀ j, j < i → a.s.getD j 0 ≠ 0) (fun (i : Nat) => a.s.length - i) (0) hst ⟨Nat.zero_le _, no_lt⟩ ⟨rfl, trivial⟩ ?_
     intro i f w hst hJ ih43
     refine SQ <| SR <| MI rfl <| CN <| Op1.fieldAddr fld71_2 rfl <| CN <| Op1.load1 (v := str _) ty9 rfl rfl (hst.cellL (.head _) rfl) <| CN <| Op1.lenS (rest := []) ty9 rfl <| CN <| Op1.lss rfl rfl <| NL <| run_cond_dec rfl (fun g44 => ?_) (fun g44 => ?_)
     · skip
       refine run_skip <| SQ <| run_block <| SR <| CN <| Op1.fieldAddr fld71_2 rfl <| CN <| Op1.load1 (v := str _) ty9 rfl rfl (hst.cellL (.head _) rfl) <| MI rfl <| CN <| Op1.indexS ty9 rfl rfl (by omega) (by omega) <| CN <| Op1.eql rfl rfl <| NL <| run_cond_dec rfl (fun g45 => ?_) (fun g45 => ?_)
       · skip
         refine SR <| AI rfl <| NL <| run_ret1 Try.func92 rfl (TP (v := .int .i64 _) rfl) ?_
         have hE := wrongA_eq (c := c) (a := a) (bound := bound) (fun h => h.elim (by omega) (fun h => h (by rw [hkd]; omega))) (fun h => h.elim (fun h => by have := h.2; omega) (fun h => h.1 (by omega)))
         rw [if_neg (fun h => absurd h.2 (of_decide_eq_false g37))] at hE
         rw [if_neg (fun h => by have := h.1; omega)] at hE
         rw [textE_hit (i := i) (by omega) (byte0 (by have hg := g45; exact hg)) hJ.2] at hE
         exact ⟨congrArg (Value.int .i64) (hE).symm, hst.pure⟩
       refine run_skip <| run_inBlock <| RG <| MI rfl <| CN <| Op1.addN rfl rfl rfl (wrap_i64 (by omega) (by omega)) <| AI rfl <| NL <| run_inLoop ?_
       exact ih43 (i + 1) _ w (by omega) hst (⟨by omega, step_all hJ.2 (byte1 g45)⟩) ⟨rfl, trivial⟩ ⟨(congrArg (Value.int .i64) (by omega)), trivial⟩
     refine run_exit (id := 0) rfl <| SR <| AI rfl <| NL <| run_ret1 Try.func92 rfl (TP (v := .int .i64 _) rfl) ?_
     have hE := wrongA_eq (c := c) (a := a) (bound := bound) (fun h => h.elim (by omega) (fun h => h (by rw [hkd]; omega))) (fun h => h.elim (fun h => by have := h.2; omega) (fun h => h.1 (by omega)))
     rw [if_neg (fun h => absurd h.2 (of_decide_eq_false g37))] at hE
     rw [if_neg (fun h => by have := h.1; omega)] at hE
     rw [textE_none (fun j hj => hJ.2 j (by omega))] at hE
     exact ⟨congrArg (Value.int .i64) (hE).symm, hst.pure⟩
   refine OM (t := 40) rfl (congrArg Value.bool (decide_eq_false g36)) rfl <| OM (t := 40) rfl (congrArg Value.bool (decide_eq_false g36)) rfl <| OM (t := 40) rfl (congrArg Value.bool (decide_eq_false g36)) rfl <| OM (t := 40) rfl (congrArg Value.bool (decide_eq_false g36)) rfl <| CN <| Op1.pickF (u := .bool _) (congrArg Value.bool (decide_eq_false g36)) rfl <| NL <| run_cond_false (congrArg Value.bool (rfl : false = _)) <| run_skip <| SR <| MC rfl <| CN <| Op1.fieldAddr fld71_1 rfl <| CN <| Op1.load1 (v := .int .u32 _) ty23 rfl rfl (hst.cellL (.head _) rfl) <| CN <| Op1.call2 (v1 := .int .u8 _) (v2 := .int .u32 _) ent81 rfl rfl rfl <| Ret.det (R3ref_Enum2 ho _) hst fun w hst => CN (Op1.move (v := .tuple #[str _, .bool _]) rfl ?_)
   refine CN <| Op1.extract (v := str _) rfl rfl <| CN <| Op1.extract (v := .bool _) rfl rfl <| AS rfl <| AB rfl <| NL <| SQ <| SR <| CN <| Op1.fieldAddr fld71_0 rfl <| CN <| Op1.load1 (v := .int .u8 _) ty5 rfl rfl (hst.cellL (.head _) rfl) <| CN <| Op1.eql rfl rfl <| MB rfl <| RunL.splitD (d := 56) rfl (fun g46 => ?_) (fun g46 => ?_)
   · skip
     refine TK (t := 56) rfl (congrArg Value.bool (decide_eq_true g46)) <| Op1.move (v := .bool _) rfl <| TK (t := 56) rfl (congrArg Value.bool (decide_eq_true g46)) <| Op1.not rfl <| CN <| Op1.pickT (u := .bool _) (congrArg Value.bool (decide_eq_true g46)) rfl <| NL <| Run.forget [(4, .pointer (some ⟨_, _, none⟩)), (59, .bool _)] ⟨rfl, rfl, trivial⟩ fun f => run_cond_split rfl (fun g47 => ?_) (fun g47 => ?_)
     · skip
       refine SR <| AI rfl <| NL <| run_ret1 Try.func92 rfl (TP (v := .int .i64 _) rfl) ?_
       have hE := wrongA_eq (c := c) (a := a) (bound := bound) (fun h => h.elim (by omega) (fun h => h (by rw [hkd]; omega))) (fun h => h.elim (fun h => by have := h.2; omega) (fun h => h.1 (by omega)))
       rw [if_neg (fun h => by have := h.1; omega)] at hE
       rw [if_pos ⟨by omega, by rw [ho]; simpa using g47⟩] at hE
       exact ⟨congrArg (Value.int .i64) (hE).symm, hst.pure⟩
     refine run_skip <| SQ <| SR <| AI rfl <| NL <| run_block <| run_loop <| Run.indW [(4, .pointer (some ⟨_, _, none⟩))] ⟨rfl, trivial⟩ (fun (i : Nat) => [(9, .int .i64 (i : Int))]) (fun (i : Nat) => []) (fun (i : Nat) => i ≤ a.s.length ∧ ∀ j, j < i → a.s.getD j 0 ≠ 0) (fun (i : Nat) => a.s.length - i) (0) hst ⟨Nat.zero_le _, no_lt⟩ ⟨rfl, trivial⟩ ?_
     intro i f w hst hJ ih48
     refine SQ <| SR <| MI rfl <| CN <| Op1.fieldAddr fld71_2 rfl <| CN <| Op1.load1 (v := str _) ty9 rfl rfl (hst.cellL (.head _) rfl) <| CN <| Op1.lenS (rest := []) ty9 rfl <| CN <| Op1.lss rfl rfl <| NL <| run_cond_dec rfl (fun g49 => ?_) (fun g49 => ?_)
     · skip
       refine run_skip <| SQ <| run_block <| SR <| CN <| Op1.fieldAddr fld71_2 rfl <| CN <| Op1.load1 (v := str _) ty9 rfl rfl (hst.cellL (.head _) rfl) <| MI rfl <| CN <| Op1.indexS ty9 rfl rfl (by omega) (by omega) <| CN <| Op1.eql rfl rfl <| NL <| run_cond_dec rfl (fun g50 => ?_) (fun g50 => ?_)
       · skip
         refine SR <| AI rfl <| NL <| run_ret1 Try.func92 rfl (TP (v := .int .i64 _) rfl) ?_
         have hE := wrongA_eq (c := c) (a := a) (bound := bound) (fun h => h.elim (by omega) (fun h => h (by rw [hkd]; omega))) (fun h => h.elim (fun h => by have := h.2; omega) (fun h => h.1 (by omega)))
         rw [if_neg (fun h => by have := h.1; omega)] at hE
         rw [if_neg (fun h => by have h2 := h.2; have hg := g47; rw [ho] at h2; rw [h2] at hg; cases hg)] at hE
         rw [textE_hit (i := i) (by omega) (byte0 (by have hg := g50; exact hg)) hJ.2] at hE
         exact ⟨congrArg (Value.int .i64) (hE).symm, hst.pure⟩
       refine run_skip <| run_inBlock <| RG <| MI rfl <| CN <| Op1.addN rfl rfl rfl (wrap_i64 (by omega) (by omega)) <| AI rfl <| NL <| run_inLoop ?_
       exact ih48 (i + 1) _ w (by omega) hst (⟨by omega, step_all hJ.2 (byte1 g50)⟩) ⟨rfl, trivial⟩ ⟨(congrArg (Value.int .i64) (by omega)), trivial⟩
     refine run_exit (id := 0) rfl <| SR <| AI rfl <| NL <| run_ret1 Try.func92 rfl (TP (v := .int .i64 _) rfl) ?_
     have hE := wrongA_eq (c := c) (a := a) (bound := bound) (fun h => h.elim (by omega) (fun h => h (by rw [hkd]; omega))) (fun h => h.elim (fun h => by have := h.2; omega) (fun h => h.1 (by omega)))
     rw [if_neg (fun h => by have := h.1; omega)] at hE
     rw [if_neg (fun h => by have h2 := h.2; have hg := g47; rw [ho] at h2; rw [h2] at hg; cases hg)] at hE
     rw [textE_none (fun j hj => hJ.2 j (by omega))] at hE
     exact ⟨congrArg (Value.int .i64) (hE).symm, hst.pure⟩
   refine OM (t := 56) rfl (congrArg Value.bool (decide_eq_false g46)) rfl <| OM (t := 56) rfl (congrArg Value.bool (decide_eq_false g46)) rfl <| CN <| Op1.pickF (u := .bool _) (congrArg Value.bool (decide_eq_false g46)) rfl <| NL <| Run.forget [(4, .pointer (some ⟨_, _, none⟩)), (59, .bool _)] ⟨rfl, rfl, trivial⟩ fun f => run_cond_false (congrArg Value.bool (rfl : false = _)) <| run_skip <| SQ <| SR <| AI rfl <| NL <| run_block <| run_loop <| Run.indW [(4, .pointer (some ⟨_, _, none⟩))] ⟨rfl, trivial⟩ (fun (i : Nat) => [(9, .int .i64 (i : Int))]) (fun (i : Nat) => []) (fun (i : Nat) => i ≤ a.s.length ∧ ∀ j, j < i → a.s.getD j 0 ≠ 0) (fun (i : Nat) => a.s.length - i) (0) hst ⟨Nat.zero_le _, no_lt⟩ ⟨rfl, trivial⟩ ?_
   intro i f w hst hJ ih51
   refine SQ <| SR <| MI rfl <| CN <| Op1.fieldAddr fld71_2 rfl <| CN <| Op1.load1 (v := str _) ty9 rfl rfl (hst.cellL (.head _) rfl) <| CN <| Op1.lenS (rest := []) ty9 rfl <| CN <| Op1.lss rfl rfl <| NL <| run_cond_dec rfl (fun g52 => ?_) (fun g52 => ?_)
   · skip
     refine run_skip <| SQ <| run_block <| SR <| CN <| Op1.fieldAddr fld71_2 rfl <| CN <| Op1.load1 (v := str _) ty9 rfl rfl (hst.cellL (.head _) rfl) <| MI rfl <| CN <| Op1.indexS ty9 rfl rfl (by omega) (by omega) <| CN <| Op1.eql rfl rfl <| NL <| run_cond_dec rfl (fun g53 => ?_) (fun g53 => ?_)
     · skip
       refine SR <| AI rfl <| NL <| run_ret1 Try.func92 rfl (TP (v := .int .i64 _) rfl) ?_
       have hE := wrongA_eq (c := c) (a := a) (bound := bound) (fun h => h.elim (by omega) (fun h => h (by rw [hkd]; omega))) (fun h => h.elim (fun h => by have := h.2; omega) (fun h => h.1 (by omega)))
       rw [if_neg (fun h => by have := h.1; omega)] at hE
       rw [if_neg (fun h => by have := h.1; omega)] at hE
       rw [textE_hit (i := i) (by omega) (byte0 (by have hg := g53; exact hg)) hJ.2] at hE
       exact ⟨congrArg (Value.int .i64) (hE).symm, hst.pure⟩
     refine run_skip <| run_inBlock <| RG <| MI rfl <| CN <| Op1.addN rfl rfl rfl (wrap_i64 (by omega) (by omega)) <| AI rfl <| NL <| run_inLoop ?_
     exact ih51 (i + 1) _ w (by omega) hst (⟨by omega, step_all hJ.2 (byte1 g53)⟩) ⟨rfl, trivial⟩ ⟨(congrArg (Value.int .i64) (by omega)), trivial⟩
   refine run_exit (id := 0) rfl <| SR <| AI rfl <| NL <| run_ret1 Try.func92 rfl (TP (v := .int .i64 _) rfl) ?_
   have hE := wrongA_eq (c := c) (a := a) (bound := bound) (fun h => h.elim (by omega) (fun h => h (by rw [hkd]; omega))) (fun h => h.elim (fun h => by have := h.2; omega) (fun h => h.1 (by omega)))
   rw [if_neg (fun h => by have := h.1; omega)] at hE
   rw [if_neg (fun h => by have := h.1; omega)] at hE
   rw [textE_none (fun j hj => hJ.2 j (by omega))] at hE
   exact ⟨congrArg (Value.int .i64) (hE).symm, hst.pure⟩
 refine OM (t := 22) rfl (congrArg Value.bool (decide_eq_false g14)) rfl <| OM (t := 22) rfl (congrArg Value.bool (decide_eq_false g14)) rfl <| OM (t := 22) rfl (congrArg Value.bool (decide_eq_false g14)) rfl <| CN <| Op1.pickF (u := .bool _) (congrArg Value.bool (decide_eq_false g14)) rfl <| MB rfl <| TK (t := 27) rfl (congrArg Value.bool (rfl : false = _)) <| Op1.fieldAddr fld71_0 rfl <| TK (t := 27) rfl (congrArg Value.bool (rfl : false = _)) <| Op1.load1 (v := .int .u8 _) ty5 rfl rfl (hst.cellL (.head _) rfl) <| TK (t := 27) rfl (congrArg Value.bool (rfl : false = _)) <| Op1.neq rfl rfl <| TK (t := 27) rfl (congrArg Value.bool (rfl : false = _)) <| Op1.move (v := .bool _) rfl <| RunL.splitD (d := 31) rfl (fun g54 => ?_) (fun g54 => ?_)
 · skip
   refine TK (t := 31) rfl (congrArg Value.bool (decide_eq_true g54)) <| Op1.fieldAddr fld71_2 rfl <| TK (t := 31) rfl (congrArg Value.bool (decide_eq_true g54)) <| Op1.load1 (v := str _) ty9 rfl rfl (hst.cellL (.head _) rfl) <| TK (t := 31) rfl (congrArg Value.bool (decide_eq_true g54)) <| Op1.neqS rfl rfl <| TK (t := 27) rfl (congrArg Value.bool (rfl : false = _)) <| Op1.pickT (u := .bool _) (congrArg Value.bool (decide_eq_true g54)) rfl <| CN <| Op1.pickF (u := .bool _) (congrArg Value.bool (rfl : false = _)) rfl <| NL <| Run.forget [(0, .int .u8 _), (2, .int .u32 _), (4, .pointer (some ⟨_, _, none⟩)), (36, .bool _)] ⟨rfl, rfl, rfl, rfl, trivial⟩ fun f => run_cond_dec rfl (fun g55 => ?_) (fun g55 => ?_)
   · skip
     refine SR <| AI rfl <| NL <| run_ret1 Try.func92 rfl (TP (v := .int .i64 _) rfl) ?_
     exact ⟨congrArg (Value.int .i64) (wrongA_form (.inr (.inr (.inr ⟨by omega, by simpa using g55⟩)))).symm, hst.pure⟩
   refine run_skip <| SQ <| SR <| CN <| Op1.fieldAddr fld71_0 rfl <| CN <| Op1.load1 (v := .int .u8 _) ty5 rfl rfl (hst.cellL (.head _) rfl) <| CN <| Op1.eql rfl rfl <| MB rfl <| RunL.splitD (d := 40) rfl (fun g56 => ?_) (fun g56 => ?_)
   · skip
     refine TK (t := 40) rfl (congrArg Value.bool (decide_eq_true g56)) <| Op1.fieldAddr fld71_1 rfl <| TK (t := 40) rfl (congrArg Value.bool (decide_eq_true g56)) <| Op1.load1 (v := .int .u32 _) ty23 rfl rfl (hst.cellL (.head _) rfl) <| TK (t := 40) rfl (congrArg Value.bool (decide_eq_true g56)) <| Op1.move (v := .int .u32 _) rfl <| TK (t := 40) rfl (congrArg Value.bool (decide_eq_true g56)) (Op1.call2 (v1 := .int .u32 _) (v2 := .int .u32 _) ent78 rfl rfl rfl ((R3ref4_None _ _ _).mono fun v w hp => ?_))
     obtain ⟨rfl, hp⟩ := hp
     replace hst := hst.keepc hp
     clear hp
     refine CN <| Op1.pickT (u := .bool _) (congrArg Value.bool (decide_eq_true g56)) rfl <| NL <| run_cond_split rfl (fun g57 => ?_) (fun g57 => ?_)
     · skip
       refine SR <| AI rfl <| NL <| run_ret1 Try.func92 rfl (TP (v := .int .i64 _) rfl) ?_
       have hE := wrongA_eq (c := c) (a := a) (bound := bound) (fun h => h.elim (by omega) (fun h => h (by rw [hkd]; omega))) (fun h => h.elim (fun h => by have := h.2; omega) (fun h => absurd h.2 (by simpa using g55)))
       rw [if_pos ⟨by omega, by simpa using g57⟩] at hE
       exact ⟨congrArg (Value.int .i64) (hE).symm, hst.pure⟩
     refine run_skip <| SR <| MC rfl <| CN <| Op1.fieldAddr fld71_1 rfl <| CN <| Op1.load1 (v := .int .u32 _) ty23 rfl rfl (hst.cellL (.head _) rfl) <| CN <| Op1.call2 (v1 := .int .u8 _) (v2 := .int .u32 _) ent81 rfl rfl rfl <| Ret.det (R3ref_Enum2 ho _) hst fun w hst => CN <| Op1.move (v := .tuple #[str _, .bool _]) rfl <| CN <| Op1.extract (v := str _) rfl rfl <| CN <| Op1.extract (v := .bool _) rfl rfl <| AS rfl <| AB rfl <| NL <| SQ <| SQ ?_
     refine RG <| CN <| Op1.fieldAddr fld71_0 rfl <| CN <| Op1.load1 (v := .int .u8 _) ty5 rfl rfl (hst.cellL (.head _) rfl) <| CN <| Op1.eql rfl rfl <| MB rfl <| RunL.splitD (d := 56) rfl (fun g58 => ?_) (fun g58 => ?_)
     · skip
       refine TK (t := 56) rfl (congrArg Value.bool (decide_eq_true g58)) <| Op1.move (v := .bool _) rfl <| TK (t := 56) rfl (congrArg Value.bool (decide_eq_true g58)) <| Op1.not rfl <| CN <| Op1.pickT (u := .bool _) (congrArg Value.bool (decide_eq_true g58)) rfl <| NL <| Run.forget [(4, .pointer (some ⟨_, _, none⟩)), (59, .bool _)] ⟨rfl, rfl, trivial⟩ fun f => run_cond_split rfl (fun g59 => ?_) (fun g59 => ?_)
       · skip
         refine SR <| AI rfl <| NL <| run_ret1 Try.func92 rfl (TP (v := .int .i64 _) rfl) ?_
         have hE := wrongA_eq (c := c) (a := a) (bound := bound) (fun h => h.elim (by omega) (fun h => h (by rw [hkd]; omega))) (fun h => h.elim (fun h => by have := h.2; omega) (fun h => absurd h.2 (by simpa using g55)))
         rw [if_neg (fun h => absurd h.2 (of_decide_eq_false g57))] at hE
         rw [if_pos ⟨by omega, by rw [ho]; simpa using g59⟩] at hE
         exact ⟨congrArg (Value.int .i64) (hE).symm, hst.pure⟩
       refine run_skip <| SQ <| SR <| AI rfl <| NL <| run_block <| run_loop <| Run.indW [(4, .pointer (some ⟨_, _, none⟩))] ⟨rfl, trivial⟩ (fun (i : Nat) => [(9, .int .i64 (i : Int))]) (fun (i : Nat) => []) (fun (i : Nat) => i ≤ a.s.length ∧ ∀ j, j < i → a.s.getD j 0 ≠ 0) (fun (i : Nat) => a.s.length - i) (0) hst ⟨Nat.zero_le _, no_lt⟩ ⟨rfl, trivial⟩ ?_
       intro i f w hst hJ ih60
       refine SQ <| SR <| MI rfl <| CN <| Op1.fieldAddr fld71_2 rfl <| CN <| Op1.load1 (v := str _) ty9 rfl rfl (hst.cellL (.head _) rfl) <| CN <| Op1.lenS (rest := []) ty9 rfl <| CN <| Op1.lss rfl rfl <| NL <| run_cond_dec rfl (fun g61 => ?_) (fun g61 => ?_)
       · skip
         refine run_skip <| SQ <| run_block <| SR <| CN <| Op1.fieldAddr fld71_2 rfl <| CN <| Op1.load1 (v := str _) ty9 rfl rfl (hst.cellL (.head _) rfl) <| MI rfl <| CN <| Op1.indexS ty9 rfl rfl (by omega) (by omega) <| CN <| Op1.eql rfl rfl <| NL <| run_cond_dec rfl (fun g62 => ?_) (fun g62 => ?_)
         · skip
           refine SR <| AI rfl <| NL <| run_ret1 Try.func92 rfl (TP (v := .int .i64 _) rfl) ?_
           have hE := wrongA_eq (c := c) (a := a) (bound := bound) (fun h => h.elim (by omega) (fun h => h (by rw [hkd]; omega))) (fun h => h.elim (fun h => by have := h.2; omega) (fun h => absurd h.2 (by simpa using g55)))
           rw [if_neg (fun h => absurd h.2 (of_decide_eq_false g57))] at hE
           rw [if_neg (fun h => by have h2 := h.2; have hg := g59; rw [ho] at h2; rw [h2] at hg; cases hg)] at hE
           rw [textE_hit (i := i) (by omega) (byte0 (by have hg := g62; exact hg)) hJ.2] at hE
           exact ⟨congrArg (Value.int .i64) (hE).symm, hst.pure⟩
         refine run_skip <| run_inBlock <| RG <| MI rfl <| CN <| Op1.addN rfl rfl rfl (wrap_i64 (by omega) (by omega)) <| AI rfl <| NL <| run_inLoop ?_
         exact ih60 (i + 1) _ w (by omega) hst (⟨by omega, step_all hJ.2 (byte1 g62)⟩) ⟨rfl, trivial⟩ ⟨(congrArg (Value.int .i64) (by omega)), trivial⟩
       refine run_exit (id := 0) rfl <| SR <| AI rfl <| NL <| run_ret1 Try.func92 rfl (TP (v := .int .i64 _) rfl) ?_
       have hE := wrongA_eq (c := c) (a := a) (bound := bound) (fun h => h.elim (by omega) (fun h => h (by rw [hkd]; omega))) (fun h => h.elim (fun h => by have := h.2; omega) (fun h => absurd h.2 (by simpa using g55)))
       rw [if_neg (fun h => absurd h.2 (of_decide_eq_false g57))] at hE
       rw [if_neg (fun h => by have h2 := h.2; have hg := g59; rw [ho] at h2; rw [h2] at hg; cases hg)] at hE
       rw [textE_none (fun j hj => hJ.2 j (by omega))] at hE
       exact ⟨congrArg (Value.int .i64) (hE).symm, hst.pure⟩
     refine OM (t := 56) rfl (congrArg Value.bool (decide_eq_false g58)) rfl <| OM (t := 56) rfl (congrArg Value.bool (decide_eq_false g58)) rfl <| CN <| Op1.pickF (u := .bool _) (congrArg Value.bool (decide_eq_false g58)) rfl <| NL <| Run.forget [(4, .pointer (some ⟨_, _, none⟩)), (59, .bool _)] ⟨rfl, rfl, trivial⟩ fun f => run_cond_false (congrArg Value.bool (rfl : false = _)) <| run_skip <| SQ <| SR <| AI rfl <| NL <| run_block <| run_loop <| Run.indW [(4, .pointer (some ⟨_, _, none⟩))] ⟨rfl, trivial⟩ (fun (i : Nat) => [(9, .int .i64 (i : Int))]) (fun (i : Nat) => []) (fun (i : Nat) => i ≤ a.s.length ∧ ∀ j, j < i → a.s.getD j 0 ≠ 0) (fun (i : Nat) => a.s.length - i) (0) hst ⟨Nat.zero_le _, no_lt⟩ ⟨rfl, trivial⟩ ?_
     intro i f w hst hJ ih63
     refine SQ <| SR <| MI rfl <| CN <| Op1.fieldAddr fld71_2 rfl <| CN <| Op1.load1 (v := str _) ty9 rfl rfl (hst.cellL (.head _) rfl) <| CN <| Op1.lenS (rest := []) ty9 rfl <| CN <| Op1.lss rfl rfl <| NL <| run_cond_dec rfl (fun g64 => ?_) (fun g64 => ?_)
     · skip
       refine run_skip <| SQ <| run_block <| SR <| CN <| Op1.fieldAddr fld71_2 rfl <| CN <| Op1.load1 (v := str _) ty9 rfl rfl (hst.cellL (.head _) rfl) <| MI rfl <| CN <| Op1.indexS ty9 rfl rfl (by omega) (by omega) <| CN <| Op1.eql rfl rfl <| NL <| run_cond_dec rfl (fun g65 => ?_) (fun g65 => ?_)
       · skip
         refine SR <| AI rfl <| NL <| run_ret1 Try.func92 rfl (TP (v := .int .i64 _) rfl) ?_
         have hE := wrongA_eq (c := c) (a := a) (bound := bound) (fun h => h.elim (by omega) (fun h => h (by rw [hkd]; omega))) (fun h => h.elim (fun h => by have := h.2; omega) (fun h => absurd h.2 (by simpa using g55)))
         rw [if_neg (fun h => absurd h.2 (of_decide_eq_false g57))] at hE
         rw [if_neg (fun h => by have := h.1; omega)] at hE
         rw [textE_hit (i := i) (by omega) (byte0 (by have hg := g65; exact hg)) hJ.2] at hE
         exact ⟨congrArg (Value.int .i64) (hE).symm, hst.pure⟩
       refine run_skip <| run_inBlock <| RG <| MI rfl <| CN <| Op1.addN rfl rfl rfl (wrap_i64 (by omega) (by omega)) <| AI rfl <| NL <| run_inLoop ?_
       exact ih63 (i + 1) _ w (by omega) hst (⟨by omega, step_all hJ.2 (byte1 g65)⟩) ⟨rfl, trivial⟩ ⟨(congrArg (Value.int .i64) (by omega)), trivial⟩
     refine run_exit (id := 0) rfl <| SR <| AI rfl <| NL <| run_ret1 Try.func92 rfl (TP (v := .int .i64 _) rfl) ?_
     have hE := wrongA_eq (c := c) (a := a) (bound := bound) (fun h => h.elim (by omega) (fun h => h (by rw [hkd]; omega))) (fun h => h.elim (fun h => by have := h.2; omega) (fun h => absurd h.2 (by simpa using g55)))
     rw [if_neg (fun h => absurd h.2 (of_decide_eq_false g57))] at hE
     rw [if_neg (fun h => by have := h.1; omega)] at hE
     rw [textE_none (fun j hj => hJ.2 j (by omega))] at hE
     exact ⟨congrArg (Value.int .i64) (hE).symm, hst.pure⟩
   refine OM (t := 40) rfl (congrArg Value.bool (decide_eq_false g56)) rfl <| OM (t := 40) rfl (congrArg Value.bool (decide_eq_false g56)) rfl <| OM (t := 40) rfl (congrArg Value.bool (decide_eq_false g56)) rfl <| OM (t := 40) rfl (congrArg Value.bool (decide_eq_false g56)) rfl <| CN <| Op1.pickF (u := .bool _) (congrArg Value.bool (decide_eq_false g56)) rfl <| NL <| run_cond_false (congrArg Value.bool (rfl : false = _)) <| run_skip <| SR <| MC rfl <| CN <| Op1.fieldAddr fld71_1 rfl <| CN <| Op1.load1 (v := .int .u32 _) ty23 rfl rfl (hst.cellL (.head _) rfl) <| CN <| Op1.call2 (v1 := .int .u8 _) (v2 := .int .u32 _) ent81 rfl rfl rfl <| Ret.det (R3ref_Enum2 ho _) hst fun w hst => CN (Op1.move (v := .tuple #[str _, .bool _]) rfl ?_)
   refine CN <| Op1.extract (v := str _) rfl rfl <| CN <| Op1.extract (v := .bool _) rfl rfl <| AS rfl <| AB rfl <| NL <| SQ <| SR <| CN <| Op1.fieldAddr fld71_0 rfl <| CN <| Op1.load1 (v := .int .u8 _) ty5 rfl rfl (hst.cellL (.head _) rfl) <| CN <| Op1.eql rfl rfl <| MB rfl <| RunL.splitD (d := 56) rfl (fun g66 => ?_) (fun g66 => ?_)
   · skip
     refine TK (t := 56) rfl (congrArg Value.bool (decide_eq_true g66)) <| Op1.move (v := .bool _) rfl <| TK (t := 56) rfl (congrArg Value.bool (decide_eq_true g66)) <| Op1.not rfl <| CN <| Op1.pickT (u := .bool _) (congrArg Value.bool (decide_eq_true g66)) rfl <| NL <| Run.forget [(4, .pointer (some ⟨_, _, none⟩)), (59, .bool _)] ⟨rfl, rfl, trivial⟩ fun f => run_cond_split rfl (fun g67 => ?_) (fun g67 => ?_)
     · skip
       refine SR <| AI rfl <| NL <| run_ret1 Try.func92 rfl (TP (v := .int .i64 _) rfl) ?_
       have hE := wrongA_eq (c := c) (a := a) (bound := bound) (fun h => h.elim (by omega) (fun h => h (by rw [hkd]; omega))) (fun h => h.elim (fun h => by have := h.2; omega) (fun h => absurd h.2 (by simpa using g55)))
       rw [if_neg (fun h => by have := h.1; omega)] at hE
       rw [if_pos ⟨by omega, by rw [ho]; simpa using g67⟩] at hE
       exact ⟨congrArg (Value.int .i64) (hE).symm, hst.pure⟩
     refine run_skip <| SQ <| SR <| AI rfl <| NL <| run_block <| run_loop <| Run.indW [(4, .pointer (some ⟨_, _, none⟩))] ⟨rfl, trivial⟩ (fun (i : Nat) => [(9, .int .i64 (i : Int))]) (fun (i : Nat) => []) (fun (i : Nat) => i ≤ a.s.length ∧ ∀ j, j < i → a.s.getD j 0 ≠ 0) (fun (i : Nat) => a.s.length - i) (0) hst ⟨Nat.zero_le _, no_lt⟩ ⟨rfl, trivial⟩ ?_
     intro i f w hst hJ ih68
     refine SQ <| SR <| MI rfl <| CN <| Op1.fieldAddr fld71_2 rfl <| CN <| Op1.load1 (v := str _) ty9 rfl rfl (hst.cellL (.head _) rfl) <| CN <| Op1.lenS (rest := []) ty9 rfl <| CN <| Op1.lss rfl rfl <| NL <| run_cond_dec rfl (fun g69 => ?_) (fun g69 => ?_)
     · skip
       refine run_skip <| SQ <| run_block <| SR <| CN <| Op1.fieldAddr fld71_2 rfl <| CN <| Op1.load1 (v := str _) ty9 rfl rfl (hst.cellL (.head _) rfl) <| MI rfl <| CN <| Op1.indexS ty9 rfl rfl (by omega) (by omega) <| CN <| Op1.eql rfl rfl <| NL <| run_cond_dec rfl (fun g70 => ?_) (fun g70 => ?_)
       · skip
         refine SR <| AI rfl <| NL <| run_ret1 Try.func92 rfl (TP (v := .int .i64 _) rfl) ?_
         have hE := wrongA_eq (c := c) (a := a) (bound := bound) (fun h => h.elim (by omega) (fun h => h (by rw [hkd]; omega))) (fun h => h.elim (fun h => by have := h.2; omega) (fun h => absurd h.2 (by simpa using g55)))
         rw [if_neg (fun h => by have := h.1; omega)] at hE
         rw [if_neg (fun h => by have h2 := h.2; have hg := g67; rw [ho] at h2; rw [h2] at hg; cases hg)] at hE
         rw [textE_hit (i := i) (by omega) (byte0 (by have hg := g70; exact hg)) hJ.2] at hE
         exact ⟨congrArg (Value.int .i64) (hE).symm, hst.pure⟩
       refine run_skip <| run_inBlock <| RG <| MI rfl <| CN <| Op1.addN rfl rfl rfl (wrap_i64 (by omega) (by omega)) <| AI rfl <| NL <| run_inLoop ?_
       exact ih68 (i + 1) _ w (by omega) hst (⟨by omega, step_all hJ.2 (byte1 g70)⟩) ⟨rfl, trivial⟩ ⟨(congrArg (Value.int .i64) (by omega)), trivial⟩
     refine run_exit (id := 0) rfl <| SR <| AI rfl <| NL <| run_ret1 Try.func92 rfl (TP (v := .int .i64 _) rfl) ?_
     have hE := wrongA_eq (c := c) (a := a) (bound := bound) (fun h => h.elim (by omega) (fun h => h (by rw [hkd]; omega))) (fun h => h.elim (fun h => by have := h.2; omega) (fun h => absurd h.2 (by simpa using g55)))
     rw [if_neg (fun h => by have := h.1; omega)] at hE
     rw [if_neg (fun h => by have h2 := h.2; have hg := g67; rw [ho] at h2; rw [h2] at hg; cases hg)] at hE
     rw [textE_none (fun j hj => hJ.2 j (by omega))] at hE
     exact ⟨congrArg (Value.int .i64) (hE).symm, hst.pure⟩
   refine OM (t := 56) rfl (congrArg Value.bool (decide_eq_false g66)) rfl <| OM (t := 56) rfl (congrArg Value.bool (decide_eq_false g66)) rfl <| CN <| Op1.pickF (u := .bool _) (congrArg Value.bool (decide_eq_false g66)) rfl <| NL <| Run.forget [(4, .pointer (some ⟨_, _, none⟩)), (59, .bool _)] ⟨rfl, rfl, trivial⟩ fun f => run_cond_false (congrArg Value.bool (rfl : false = _)) <| run_skip <| SQ <| SR <| AI rfl <| NL <| run_block <| run_loop <| Run.indW [(4, .pointer (some ⟨_, _, none⟩))] ⟨rfl, trivial⟩ (fun (i : Nat) => [(9, .int .i64 (i : Int))]) (fun (i : Nat) => []) (fun (i : Nat) => i ≤ a.s.length ∧ ∀ j, j < i → a.s.getD j 0 ≠ 0) (fun (i : Nat) => a.s.length - i) (0) hst ⟨Nat.zero_le _, no_lt⟩ ⟨rfl, trivial⟩ ?_
   intro i f w hst hJ ih71
   refine SQ <| SR <| MI rfl <| CN <| Op1.fieldAddr fld71_2 rfl <| CN <| Op1.load1 (v := str _) ty9 rfl rfl (hst.cellL (.head _) rfl) <| CN <| Op1.lenS (rest := []) ty9 rfl <| CN <| Op1.lss rfl rfl <| NL <| run_cond_dec rfl (fun g72 => ?_) (fun g72 => ?_)
   · skip
     refine run_skip <| SQ <| run_block <| SR <| CN <| Op1.fieldAddr fld71_2 rfl <| CN <| Op1.load1 (v := str _) ty9 rfl rfl (hst.cellL (.head _) rfl) <| MI rfl <| CN <| Op1.indexS ty9 rfl rfl (by omega) (by omega) <| CN <| Op1.eql rfl rfl <| NL <| run_cond_dec rfl (fun g73 => ?_) (fun g73 => ?_)
     · skip
       refine SR <| AI rfl <| NL <| run_ret1 Try.func92 rfl (TP (v := .int .i64 _) rfl) ?_
       have hE := wrongA_eq (c := c) (a := a) (bound := bound) (fun h => h.elim (by omega) (fun h => h (by rw [hkd]; omega))) (fun h => h.elim (fun h => by have := h.2; omega) (fun h => absurd h.2 (by simpa using g55)))
       rw [if_neg (fun h => by have := h.1; omega)] at hE
       rw [if_neg (fun h => by have := h.1; omega)] at hE
       rw [textE_hit (i := i) (by omega) (byte0 (by have hg := g73; exact hg)) hJ.2] at hE
       exact ⟨congrArg (Value.int .i64) (hE).symm, hst.pure⟩
     refine run_skip <| run_inBlock <| RG <| MI rfl <| CN <| Op1.addN rfl rfl rfl (wrap_i64 (by omega) (by omega)) <| AI rfl <| NL <| run_inLoop ?_
     exact ih71 (i + 1) _ w (by omega) hst (⟨by omega, step_all hJ.2 (byte1 g73)⟩) ⟨rfl, trivial⟩ ⟨(congrArg (Value.int .i64) (by omega)), trivial⟩
   refine run_exit (id := 0) rfl <| SR <| AI rfl <| NL <| run_ret1 Try.func92 rfl (TP (v := .int .i64 _) rfl) ?_
   have hE := wrongA_eq (c := c) (a := a) (bound := bound) (fun h => h.elim (by omega) (fun h => h (by rw [hkd]; omega))) (fun h => h.elim (fun h => by have := h.2; omega) (fun h => absurd h.2 (by simpa using g55)))
   rw [if_neg (fun h => by have := h.1; omega)] at hE
   rw [if_neg (fun h => by have := h.1; omega)] at hE
   rw [textE_none (fun j hj => hJ.2 j (by omega))] at hE
   exact ⟨congrArg (Value.int .i64) (hE).symm, hst.pure⟩
 refine OM (t := 31) rfl (congrArg Value.bool (decide_eq_false g54)) rfl <| OM (t := 31) rfl (congrArg Value.bool (decide_eq_false g54)) rfl <| OM (t := 31) rfl (congrArg Value.bool (decide_eq_false g54)) rfl <| TK (t := 27) rfl (congrArg Value.bool (rfl : false = _)) <| Op1.pickF (u := .bool _) (congrArg Value.bool (decide_eq_false g54)) rfl <| CN <| Op1.pickF (u := .bool _) (congrArg Value.bool (rfl : false = _)) rfl <| NL <| Run.forget [(0, .int .u8 _), (2, .int .u32 _), (4, .pointer (some ⟨_, _, none⟩)), (36, .bool _)] ⟨rfl, rfl, rfl, rfl, trivial⟩ fun f => run_cond_false (congrArg Value.bool (rfl : false = _)) <| run_skip <| SQ <| SR <| CN <| Op1.fieldAddr fld71_0 rfl <| CN <| Op1.load1 (v := .int .u8 _) ty5 rfl rfl (hst.cellL (.head _) rfl) <| CN (Op1.eql rfl rfl ?_)
 refine MB rfl <| RunL.splitD (d := 40) rfl (fun g74 => ?_) (fun g74 => ?_)
 · skip
   refine TK (t := 40) rfl (congrArg Value.bool (decide_eq_true g74)) <| Op1.fieldAddr fld71_1 rfl <| TK (t := 40) rfl (congrArg Value.bool (decide_eq_true g74)) <| Op1.load1 (v := .int .u32 _) ty23 rfl rfl (hst.cellL (.head _) rfl) <| TK (t := 40) rfl (congrArg Value.bool (decide_eq_true g74)) <| Op1.move (v := .int .u32 _) rfl <| TK (t := 40) rfl (congrArg Value.bool (decide_eq_true g74)) (Op1.call2 (v1 := .int .u32 _) (v2 := .int .u32 _) ent78 rfl rfl rfl ((R3ref4_None _ _ _).mono fun v w hp => ?_))
   obtain ⟨rfl, hp⟩ := hp
   replace hst := hst.keepc hp
   clear hp
   refine CN <| Op1.pickT (u := .bool _) (congrArg Value.bool (decide_eq_true g74)) rfl <| NL <| run_cond_split rfl (fun g75 => ?_) (fun g75 => ?_)
   · skip
     refine SR <| AI rfl <| NL <| run_ret1 Try.func92 rfl (TP (v := .int .i64 _) rfl) ?_
     have hE := wrongA_eq (c := c) (a := a) (bound := bound) (fun h => h.elim (by omega) (fun h => h (by rw [hkd]; omega))) (fun h => h.elim (fun h => by have := h.2; omega) (fun h => h.1 (by omega)))
     rw [if_pos ⟨by omega, by simpa using g75⟩] at hE
     exact ⟨congrArg (Value.int .i64) (hE).symm, hst.pure⟩
   refine run_skip <| SR <| MC rfl <| CN <| Op1.fieldAddr fld71_1 rfl <| CN <| Op1.load1 (v := .int .u32 _) ty23 rfl rfl (hst.cellL (.head _) rfl) <| CN <| Op1.call2 (v1 := .int .u8 _) (v2 := .int .u32 _) ent81 rfl rfl rfl <| Ret.det (R3ref_Enum2 ho _) hst fun w hst => CN <| Op1.move (v := .tuple #[str _, .bool _]) rfl <| CN <| Op1.extract (v := str _) rfl rfl <| CN <| Op1.extract (v := .bool _) rfl rfl <| AS rfl <| AB rfl <| NL <| SQ <| SQ ?_
   refine RG <| CN <| Op1.fieldAddr fld71_0 rfl <| CN <| Op1.load1 (v := .int .u8 _) ty5 rfl rfl (hst.cellL (.head _) rfl) <| CN <| Op1.eql rfl rfl <| MB rfl <| RunL.splitD (d := 56) rfl (fun g76 => ?_) (fun g76 => ?_)
   · skip
     refine TK (t := 56) rfl (congrArg Value.bool (decide_eq_true g76)) <| Op1.move (v := .bool _) rfl <| TK (t := 56) rfl (congrArg Value.bool (decide_eq_true g76)) <| Op1.not rfl <| CN <| Op1.pickT (u := .bool _) (congrArg Value.bool (decide_eq_true g76)) rfl <| NL <| Run.forget [(4, .pointer (some ⟨_, _, none⟩)), (59, .bool _)] ⟨rfl, rfl, trivial⟩ fun f => run_cond_split rfl (fun g77 => ?_) (fun g77 => ?_)
     · skip
       refine SR <| AI rfl <| NL <| run_ret1 Try.func92 rfl (TP (v := .int .i64 _) rfl) ?_
       have hE := wrongA_eq (c := c) (a := a) (bound := bound) (fun h => h.elim (by omega) (fun h => h (by rw [hkd]; omega))) (fun h => h.elim (fun h => by have := h.2; omega) (fun h => h.1 (by omega)))
       rw [if_neg (fun h => absurd h.2 (of_decide_eq_false g75))] at hE
       rw [if_pos ⟨by omega, by rw [ho]; simpa using g77⟩] at hE
       exact ⟨congrArg (Value.int .i64) (hE).symm, hst.pure⟩
     refine run_skip <| SQ <| SR <| AI rfl <| NL <| run_block <| run_loop <| Run.indW [(4, .pointer (some ⟨_, _, none⟩))] ⟨rfl, trivial⟩ (fun (i : Nat) => [(9, .int .i64 (i : Int))]) (fun (i : Nat) => []) (fun (i : Nat) => i ≤ a.s.length ∧ ∀ j, j < i → a.s.getD j 0 ≠ 0) (fun (i : Nat) => a.s.length - i) (0) hst ⟨Nat.zero_le _, no_lt⟩ ⟨rfl, trivial⟩ ?_
     intro i f w hst hJ ih78
     refine SQ <| SR <| MI rfl <| CN <| Op1.fieldAddr fld71_2 rfl <| CN <| Op1.load1 (v := str _) ty9 rfl rfl (hst.cellL (.head _) rfl) <| CN <| Op1.lenS (rest := []) ty9 rfl <| CN <| Op1.lss rfl rfl <| NL <| run_cond_dec rfl (fun g79 => ?_) (fun g79 => ?_)
     · skip
       refine run_skip <| SQ <| run_block <| SR <| CN <| Op1.fieldAddr fld71_2 rfl <| CN <| Op1.load1 (v := str _) ty9 rfl rfl (hst.cellL (.head _) rfl) <| MI rfl <| CN <| Op1.indexS ty9 rfl rfl (by omega) (by omega) <| CN <| Op1.eql rfl rfl <| NL <| run_cond_dec rfl (fun g80 => ?_) (fun g80 => ?_)
       · skip
         refine SR <| AI rfl <| NL <| run_ret1 Try.func92 rfl (TP (v := .int .i64 _) rfl) ?_
         have hE := wrongA_eq (c := c) (a := a) (bound := bound) (fun h => h.elim (by omega) (fun h => h (by rw [hkd]; omega))) (fun h => h.elim (fun h => by have := h.2; omega) (fun h => h.1 (by omega)))
         rw [if_neg (fun h => absurd h.2 (of_decide_eq_false g75))] at hE
         rw [if_neg (fun h => by have h2 := h.2; have hg := g77; rw [ho] at h2; rw [h2] at hg; cases hg)] at hE
         rw [textE_hit (i := i) (by omega) (byte0 (by have hg := g80; exact hg)) hJ.2] at hE
         exact ⟨congrArg (Value.int .i64) (hE).symm, hst.pure⟩
       refine run_skip <| run_inBlock <| RG <| MI rfl <| CN <| Op1.addN rfl rfl rfl (wrap_i64 (by omega) (by omega)) <| AI rfl <| NL <| run_inLoop ?_
       exact ih78 (i + 1) _ w (by omega) hst (⟨by omega, step_all hJ.2 (byte1 g80)⟩) ⟨rfl, trivial⟩ ⟨(congrArg (Value.int .i64) (by omega)), trivial⟩
     refine run_exit (id := 0) rfl <| SR <| AI rfl <| NL <| run_ret1 Try.func92 rfl (TP (v := .int .i64 _) rfl) ?_
     have hE := wrongA_eq (c := c) (a := a) (bound := bound) (fun h => h.elim (by omega) (fun h => h (by rw [hkd]; omega))) (fun h => h.elim (fun h => by have := h.2; omega) (fun h => h.1 (by omega)))
     rw [if_neg (fun h => absurd h.2 (of_decide_eq_false g75))] at hE
     rw [if_neg (fun h => by have h2 := h.2; have hg := g77; rw [ho] at h2; rw [h2] at hg; cases hg)] at hE
     rw [textE_none (fun j hj => hJ.2 j (by omega))] at hE
     exact ⟨congrArg (Value.int .i64) (hE).symm, hst.pure⟩
   refine OM (t := 56) rfl (congrArg Value.bool (decide_eq_false g76)) rfl <| OM (t := 56) rfl (congrArg Value.bool (decide_eq_false g76)) rfl <| CN <| Op1.pickF (u := .bool _) (congrArg Value.bool (decide_eq_false g76)) rfl <| NL <| Run.forget [(4, .pointer (some ⟨_, _, none⟩)), (59, .bool _)] ⟨rfl, rfl, trivial⟩ fun f => run_cond_false (congrArg Value.bool (rfl : false = _)) <| run_skip <| SQ <| SR <| AI rfl <| NL <| run_block <| run_loop <| Run.indW [(4, .pointer (some ⟨_, _, none⟩))] ⟨rfl, trivial⟩ (fun (i : Nat) => [(9, .int .i64 (i : Int))]) (fun (i : Nat) => []) (fun (i : Nat) => i ≤ a.s.length ∧ ∀ j, j < i → a.s.getD j 0 ≠ 0) (fun (i : Nat) => a.s.length - i) (0) hst ⟨Nat.zero_le _, no_lt⟩ ⟨rfl, trivial⟩ ?_
   intro i f w hst hJ ih81
   refine SQ <| SR <| MI rfl <| CN <| Op1.fieldAddr fld71_2 rfl <| CN <| Op1.load1 (v := str _) ty9 rfl rfl (hst.cellL (.head _) rfl) <| CN <| Op1.lenS (rest := []) ty9 rfl <| CN <| Op1.lss rfl rfl <| NL <| run_cond_dec rfl (fun g82 => ?_) (fun g82 => ?_)
   · skip
     refine run_skip <| SQ <| run_block <| SR <| CN <| Op1.fieldAddr fld71_2 rfl <| CN <| Op1.load1 (v := str _) ty9 rfl rfl (hst.cellL (.head _) rfl) <| MI rfl <| CN <| Op1.indexS ty9 rfl rfl (by omega) (by omega) <| CN <| Op1.eql rfl rfl <| NL <| run_cond_dec rfl (fun g83 => ?_) (fun g83 => ?_)
     · skip
       refine SR <| AI rfl <| NL <| run_ret1 Try.func92 rfl (TP (v := .int .i64 _) rfl) ?_
       have hE := wrongA_eq (c := c) (a := a) (bound := bound) (fun h => h.elim (by omega) (fun h => h (by rw [hkd]; omega))) (fun h => h.elim (fun h => by have := h.2; omega) (fun h => h.1 (by omega)))
       rw [if_neg (fun h => absurd h.2 (of_decide_eq_false g75))] at hE
       rw [if_neg (fun h => by have := h.1; omega)] at hE
       rw [textE_hit (i := i) (by omega) (byte0 (by have hg := g83; exact hg)) hJ.2] at hE
       exact ⟨congrArg (Value.int .i64) (hE).symm, hst.pure⟩
     refine run_skip <| run_inBlock <| RG <| MI rfl <| CN <| Op1.addN rfl rfl rfl (wrap_i64 (by omega) (by omega)) <| AI rfl <| NL <| run_inLoop ?_
     exact ih81 (i + 1) _ w (by omega) hst (⟨by omega, step_all hJ.2 (byte1 g83)⟩) ⟨rfl, trivial⟩ ⟨(congrArg (Value.int .i64) (by omega)), trivial⟩
   refine run_exit (id := 0) rfl <| SR <| AI rfl <| NL <| run_ret1 Try.func92 rfl (TP (v := .int .i64 _) rfl) ?_
   have hE := wrongA_eq (c := c) (a := a) (bound := bound) (fun h => h.elim (by omega) (fun h => h (by rw [hkd]; omega))) (fun h => h.elim (fun h => by have := h.2; omega) (fun h => h.1 (by omega)))
   rw [if_neg (fun h => absurd h.2 (of_decide_eq_false g75))] at hE
   rw [if_neg (fun h => by have := h.1; omega)] at hE
   rw [textE_none (fun j hj => hJ.2 j (by omega))] at hE
   exact ⟨congrArg (Value.int .i64) (hE).symm, hst.pure⟩
 refine OM (t := 40) rfl (congrArg Value.bool (decide_eq_false g74)) rfl <| OM (t := 40) rfl (congrArg Value.bool (decide_eq_false g74)) rfl <| OM (t := 40) rfl (congrArg Value.bool (decide_eq_false g74)) rfl <| OM (t := 40) rfl (congrArg Value.bool (decide_eq_false g74)) rfl <| CN <| Op1.pickF (u := .bool _) (congrArg Value.bool (decide_eq_false g74)) rfl <| NL <| run_cond_false (congrArg Value.bool (rfl : false = _)) <| run_skip <| SR <| MC rfl <| CN <| Op1.fieldAddr fld71_1 rfl <| CN <| Op1.load1 (v := .int .u32 _) ty23 rfl rfl (hst.cellL (.head _) rfl) <| CN <| Op1.call2 (v1 := .int .u8 _) (v2 := .int .u32 _) ent81 rfl rfl rfl <| Ret.det (R3ref_Enum2 ho _) hst fun w hst => CN (Op1.move (v := .tuple #[str _, .bool _]) rfl ?_)
 refine CN <| Op1.extract (v := str _) rfl rfl <| CN <| Op1.extract (v := .bool _) rfl rfl <| AS rfl <| AB rfl <| NL <| SQ <| SR <| CN <| Op1.fieldAddr fld71_0 rfl <| CN <| Op1.load1 (v := .int .u8 _) ty5 rfl rfl (hst.cellL (.head _) rfl) <| CN <| Op1.eql rfl rfl <| MB rfl <| RunL.splitD (d := 56) rfl (fun g84 => ?_) (fun g84 => ?_)
 · skip
   refine TK (t := 56) rfl (congrArg Value.bool (decide_eq_true g84)) <| Op1.move (v := .bool _) rfl <| TK (t := 56) rfl (congrArg Value.bool (decide_eq_true g84)) <| Op1.not rfl <| CN <| Op1.pickT (u := .bool _) (congrArg Value.bool (decide_eq_true g84)) rfl <| NL <| Run.forget [(4, .pointer (some ⟨_, _, none⟩)), (59, .bool _)] ⟨rfl, rfl, trivial⟩ fun f => run_cond_split rfl (fun g85 => ?_) (fun g85 => ?_)
   · skip
     refine SR <| AI rfl <| NL <| run_ret1 Try.func92 rfl (TP (v := .int .i64 _) rfl) ?_
     have hE := wrongA_eq (c := c) (a := a) (bound := bound) (fun h => h.elim (by omega) (fun h => h (by rw [hkd]; omega))) (fun h => h.elim (fun h => by have := h.2; omega) (fun h => h.1 (by omega)))
     rw [if_neg (fun h => by have := h.1; omega)] at hE
     rw [if_pos ⟨by omega, by rw [ho]; simpa using g85⟩] at hE
     exact ⟨congrArg (Value.int .i64) (hE).symm, hst.pure⟩
   refine run_skip <| SQ <| SR <| AI rfl <| NL <| run_block <| run_loop <| Run.indW [(4, .pointer (some ⟨_, _, none⟩))] ⟨rfl, trivial⟩ (fun (i : Nat) => [(9, .int .i64 (i : Int))]) (fun (i : Nat) => []) (fun (i : Nat) => i ≤ a.s.length ∧ ∀ j, j < i → a.s.getD j 0 ≠ 0) (fun (i : Nat) => a.s.length - i) (0) hst ⟨Nat.zero_le _, no_lt⟩ ⟨rfl, trivial⟩ ?_
   intro i f w hst hJ ih86
   refine SQ <| SR <| MI rfl <| CN <| Op1.fieldAddr fld71_2 rfl <| CN <| Op1.load1 (v := str _) ty9 rfl rfl (hst.cellL (.head _) rfl) <| CN <| Op1.lenS (rest := []) ty9 rfl <| CN <| Op1.lss rfl rfl <| NL <| run_cond_dec rfl (fun g87 => ?_) (fun g87 => ?_)
   · skip
     refine run_skip <| SQ <| run_block <| SR <| CN <| Op1.fieldAddr fld71_2 rfl <| CN <| Op1.load1 (v := str _) ty9 rfl rfl (hst.cellL (.head _) rfl) <| MI rfl <| CN <| Op1.indexS ty9 rfl rfl (by omega) (by omega) <| CN <| Op1.eql rfl rfl <| NL <| run_cond_dec rfl (fun g88 => ?_) (fun g88 => ?_)
     · skip
       refine SR <| AI rfl <| NL <| run_ret1 Try.func92 rfl (TP (v := .int .i64 _) rfl) ?_
       have hE := wrongA_eq (c := c) (a := a) (bound := bound) (fun h => h.elim (by omega) (fun h => h (by rw [hkd]; omega))) (fun h => h.elim (fun h => by have := h.2; omega) (fun h => h.1 (by omega)))
       rw [if_neg (fun h => by have := h.1; omega)] at hE
       rw [if_neg (fun h => by have h2 := h.2; have hg := g85; rw [ho] at h2; rw [h2] at hg; cases hg)] at hE
       rw [textE_hit (i := i) (by omega) (byte0 (by have hg := g88; exact hg)) hJ.2] at hE
       exact ⟨congrArg (Value.int .i64) (hE).symm, hst.pure⟩
     refine run_skip <| run_inBlock <| RG <| MI rfl <| CN <| Op1.addN rfl rfl rfl (wrap_i64 (by omega) (by omega)) <| AI rfl <| NL <| run_inLoop ?_
     exact ih86 (i + 1) _ w (by omega) hst (⟨by omega, step_all hJ.2 (byte1 g88)⟩) ⟨rfl, trivial⟩ ⟨(congrArg (Value.int .i64) (by omega)), trivial⟩
   refine run_exit (id := 0) rfl <| SR <| AI rfl <| NL <| run_ret1 Try.func92 rfl (TP (v := .int .i64 _) rfl) ?_
   have hE := wrongA_eq (c := c) (a := a) (bound := bound) (fun h => h.elim (by omega) (fun h => h (by rw [hkd]; omega))) (fun h => h.elim (fun h => by have := h.2; omega) (fun h => h.1 (by omega)))
   rw [if_neg (fun h => by have := h.1; omega)] at hE
   rw [if_neg (fun h => by have h2 := h.2; have hg := g85; rw [ho] at h2; rw [h2] at hg; cases hg)] at hE
   rw [textE_none (fun j hj => hJ.2 j (by omega))] at hE
   exact ⟨congrArg (Value.int .i64) (hE).symm, hst.pure⟩
 refine OM (t := 56) rfl (congrArg Value.bool (decide_eq_false g84)) rfl <| OM (t := 56) rfl (congrArg Value.bool (decide_eq_false g84)) rfl <| CN <| Op1.pickF (u := .bool _) (congrArg Value.bool (decide_eq_false g84)) rfl <| NL <| Run.forget [(4, .pointer (some ⟨_, _, none⟩)), (59, .bool _)] ⟨rfl, rfl, trivial⟩ fun f => run_cond_false (congrArg Value.bool (rfl : false = _)) <| run_skip <| SQ <| SR <| AI rfl <| NL <| run_block <| run_loop <| Run.indW [(4, .pointer (some ⟨_, _, none⟩))] ⟨rfl, trivial⟩ (fun (i : Nat) => [(9, .int .i64 (i : Int))]) (fun (i : Nat) => []) (fun (i : Nat) => i ≤ a.s.length ∧ ∀ j, j < i → a.s.getD j 0 ≠ 0) (fun (i : Nat) => a.s.length - i) (0) hst ⟨Nat.zero_le _, no_lt⟩ ⟨rfl, trivial⟩ ?_
 intro i f w hst hJ ih89
 refine SQ <| SR <| MI rfl <| CN <| Op1.fieldAddr fld71_2 rfl <| CN <| Op1.load1 (v := str _) ty9 rfl rfl (hst.cellL (.head _) rfl) <| CN <| Op1.lenS (rest := []) ty9 rfl <| CN <| Op1.lss rfl rfl <| NL <| run_cond_dec rfl (fun g90 => ?_) (fun g90 => ?_)
 · skip
   refine run_skip <| SQ <| run_block <| SR <| CN <| Op1.fieldAddr fld71_2 rfl <| CN <| Op1.load1 (v := str _) ty9 rfl rfl (hst.cellL (.head _) rfl) <| MI rfl <| CN <| Op1.indexS ty9 rfl rfl (by omega) (by omega) <| CN <| Op1.eql rfl rfl <| NL <| run_cond_dec rfl (fun g91 => ?_) (fun g91 => ?_)
   · skip
     refine SR <| AI rfl <| NL <| run_ret1 Try.func92 rfl (TP (v := .int .i64 _) rfl) ?_
     have hE := wrongA_eq (c := c) (a := a) (bound := bound) (fun h => h.elim (by omega) (fun h => h (by rw [hkd]; omega))) (fun h => h.elim (fun h => by have := h.2; omega) (fun h => h.1 (by omega)))
     rw [if_neg (fun h => by have := h.1; omega)] at hE
     rw [if_neg (fun h => by have := h.1; omega)] at hE
     rw [textE_hit (i := i) (by omega) (byte0 (by have hg := g91; exact hg)) hJ.2] at hE
     exact ⟨congrArg (Value.int .i64) (hE).symm, hst.pure⟩
   refine run_skip <| run_inBlock <| RG <| MI rfl <| CN <| Op1.addN rfl rfl rfl (wrap_i64 (by omega) (by omega)) <| AI rfl <| NL <| run_inLoop ?_
   exact ih89 (i + 1) _ w (by omega) hst (⟨by omega, step_all hJ.2 (byte1 g91)⟩) ⟨rfl, trivial⟩ ⟨(congrArg (Value.int .i64) (by omega)), trivial⟩
 refine run_exit (id := 0) rfl <| SR <| AI rfl <| NL <| run_ret1 Try.func92 rfl (TP (v := .int .i64 _) rfl) ?_
 have hE := wrongA_eq (c := c) (a := a) (bound := bound) (fun h => h.elim (by omega) (fun h => h (by rw [hkd]; omega))) (fun h => h.elim (fun h => by have := h.2; omega) (fun h => h.1 (by omega)))
 rw [if_neg (fun h => by have := h.1; omega)] at hE
 rw [if_neg (fun h => by have := h.1; omega)] at hE
 rw [textE_none (fun j hj => hJ.2 j (by omega))] at hE
 exact ⟨congrArg (Value.int .i64) (hE).symm, hst.pure⟩
theorem R3ref4_Room (p : InstP) (fm : FormL) (w : World) (hA : (Res.rargs p).holds w) (hsm : (p.args.map argRoom).sum ≤ 900000000) (hla : ∀ a ∈ p.args, a.s.length ≤ 100000000000) : Ret Try.prog 72 #[.agg #[.int .u16 p.op, .int .u32 p.ty, .int .u32 p.res, .slice p.ao p.args.length p.cap], .agg #[.int .u16 fm.op, str fm.name, .bool fm.ty, .bool fm.res, str fm.fixed, str fm.rest, .int .i64 fm.most, .int .u8 fm.part]] w (fun v w' => v = .int .i64 (roomI fm p.args : Int) ∧ St w NoM [] [] w') := by
 refine Ret.enter (args := [.agg #[.int .u16 p.op, .int .u32 p.ty, .int .u32 p.res, .slice p.ao p.args.length p.cap], .agg #[.int .u16 fm.op, str fm.name, .bool fm.ty, .bool fm.res, str fm.fixed, str fm.rest, .int .i64 fm.most, .int .u8 fm.part]]) Try.func72 rfl rfl rfl ?_
 have hst : St w NoM [] [Res.rargs p] w := St.init_D hA
 clear hA
 have hlen := len_sum p.args
 have hbt : b2n fm.ty ≤ 1 := by unfold b2n; split <;> omega
 have hbr : b2n fm.res ≤ 1 := by unfold b2n; split <;> omega
 refine SR <| CN <| Op1.box (v := .agg #[.int .u16 _, .int .u32 _, .int .u32 _, .slice _ _ _]) hst rfl rfl fun w b2 hst => CN <| Op1.box (v := .agg #[.int .u16 _, str _, .bool _, .bool _, str _, str _, .int .i64 _, .int .u8 _]) hst rfl rfl fun w b3 hst => AI rfl <| NSR <| AI rfl <| NL <| SQ <| Run.cutW (L1 := []) [(2, .pointer (some ⟨_, _, none⟩)), (3, .pointer (some ⟨_, _, none⟩))] hst ⟨rfl, rfl, trivial⟩ (fun (q : Int) => [(5, .int .i64 q)]) (fun (q : Int) => []) (fun (q : Int) => q = ((1 + b2n fm.ty : Nat) : Int)) (fun n1 f w hst hJ1 => ?_) (fun cut1 => ?_)
 replace hst : St _ _ ([] ++ [_, _]) _ _ := hst
 replace hJ1 : n1 = ((1 + b2n fm.ty : Nat) : Int) := hJ1
 refine Run.slots (sl := [(5, .int .i64 n1)]) ⟨rfl, trivial⟩ ?_
 · skip
   refine SQ <| Run.cutW (L1 := []) [(2, .pointer (some ⟨_, _, none⟩))] hst ⟨rfl, trivial⟩ (fun (q : Int) => [(5, .int .i64 q)]) (fun (q : Int) => []) (fun (q : Int) => q = ((1 + b2n fm.ty + b2n fm.res : Nat) : Int)) (fun n2 f w hst hJ2 => ?_) (fun cut3 => ?_)
   replace hst : St _ _ ([] ++ [_, _]) _ _ := hst
   replace hJ2 : n2 = ((1 + b2n fm.ty + b2n fm.res : Nat) : Int) := hJ2
   refine Run.slots (sl := [(5, .int .i64 n2)]) ⟨rfl, trivial⟩ ?_
   · skip
     refine SQ <| SR <| AI rfl <| NL <| run_block <| run_loop <| Run.indW [(2, .pointer (some ⟨_, _, none⟩))] ⟨rfl, trivial⟩ (fun (k : Nat) => [(5, .int .i64 ((1 + b2n fm.ty + b2n fm.res + sumR p.args k : Nat) : Int)), (6, .int .i64 (k : Int))]) (fun (k : Nat) => []) (fun (k : Nat) => k ≤ p.args.length) (fun (k : Nat) => p.args.length - k) (0) hst (Nat.zero_le _) ⟨(congrArg (Value.int .i64) (by rw [hJ2]; simp [sumR])), rfl, trivial⟩ ?_
     intro k f w hst hJ ih5
     refine SQ <| SR <| MI rfl <| CN <| Op1.fieldAddr fld48_3 rfl <| CN <| Op1.load1 (v := .slice _ _ _) ty46 rfl rfl (hst.cellL (.tail _ (.head _)) rfl) <| CN <| Op1.lenSl (rest := []) ty46 rfl <| CN <| Op1.lss rfl rfl <| NL <| run_cond_dec rfl (fun g6 => ?_) (fun g6 => ?_)
     · skip
       have hss := sumR_step (l := p.args) (k := k) (by omega)
       have hsum : sumR p.args k ≤ (p.args.map argRoom).sum := sumR_le
       have hmem : (p.args.getD k zeroA) ∈ p.args := getD_memD (by omega)
       have hsl := hla _ hmem
       have hidx : p.args.getD ((k : Int)).toNat zeroA = (p.args.getD k zeroA) := rfl
       have hidx2 : (p.args.getD ((k : Int)).toNat zeroA).kind = (p.args.getD k zeroA).kind := rfl
       refine run_skip <| SQ <| run_block <| SR <| CN <| Op1.fieldAddr fld48_3 rfl <| CN <| Op1.load1 (v := .slice _ _ _) ty46 rfl rfl (hst.cellL (.tail _ (.head _)) rfl) <| MI rfl <| CN <| Op1.indexRs ty46 ty71 (hst.hD _ (.head _)) rfl rfl (by omega) (by omega) <| CN <| Op1.fieldAddr fld71_0 rfl <| CN <| Op1.load1 (v := .int .u8 _) ty5 rfl rfl (Res.rs2_cellF (hst.hD _ (.head _)) (flat_cell (g := argC) (d := zeroA) argC_len rfl (by omega))) <| CN <| Op1.eql rfl rfl <| NL <| run_cond_dec rfl (fun g7 => ?_) (fun g7 => ?_)
       · skip
         refine RG <| MI rfl <| CN <| Op1.fieldAddr fld48_3 rfl <| CN <| Op1.load1 (v := .slice _ _ _) ty46 rfl rfl (hst.cellL (.tail _ (.head _)) rfl) <| MI rfl <| CN <| Op1.indexRs ty46 ty71 (hst.hD _ (.head _)) rfl rfl (by omega) (by omega) <| CN <| Op1.fieldAddr fld71_2 rfl <| CN <| Op1.load1 (v := str _) ty9 rfl rfl (Res.rs2_cellF (hst.hD _ (.head _)) (flat_cell (g := argC) (d := zeroA) argC_len rfl (by omega))) <| CN <| Op1.call1 (v1 := str _) ent93 rfl rfl <| Ret.det (R3ref1_Room (p.args.getD k zeroA).s _ (by omega)) hst fun w hst => CN <| Op1.addN rfl rfl rfl (wrap_i64 (by omega) (by omega)) <| AI rfl <| NL <| run_inBlock <| Run.forget [(2, .pointer (some ⟨_, _, none⟩)), (5, .int .i64 _), (6, .int .i64 _)] ⟨rfl, rfl, rfl, trivial⟩ fun f => RG ?_
         refine MI rfl <| CN <| Op1.addN rfl rfl rfl (wrap_i64 (by omega) (by omega)) <| AI rfl <| NL <| run_inLoop ?_
         have hy := (argW_text (a := (p.args.getD k zeroA)) (by omega)).2
         rw [hy] at hss
         exact ih5 (k + 1) _ w (by omega) hst (by omega) ⟨rfl, trivial⟩ ⟨(congrArg (Value.int .i64) (by rw [hss]; omega)), (congrArg (Value.int .i64) (by omega)), trivial⟩
       refine RG <| MI rfl <| CN <| Op1.addN rfl rfl rfl (wrap_i64 (by omega) (by omega)) <| AI rfl <| NL <| run_inBlock <| RG <| MI rfl <| CN <| Op1.addN rfl rfl rfl (wrap_i64 (by omega) (by omega)) <| AI rfl <| NL <| run_inLoop ?_
       have hy := (argW_one (a := (p.args.getD k zeroA)) (by omega)).2
       rw [hy] at hss
       exact ih5 (k + 1) _ w (by omega) hst (by omega) ⟨rfl, trivial⟩ ⟨(congrArg (Value.int .i64) (by rw [hss]; omega)), (congrArg (Value.int .i64) (by omega)), trivial⟩
     obtain rfl : k = p.args.length := by omega
     refine run_exit (id := 0) rfl <| SR <| MI rfl <| AI rfl <| NL <| run_ret1 Try.func72 rfl (TP (v := .int .i64 _) rfl) ?_
     exact ⟨congrArg (Value.int .i64) (by unfold roomI sumR; rw [List.take_length]; omega), hst.pure⟩
   · skip
     refine SR <| CN <| Op1.fieldAddr fld80_3 rfl <| CN <| Op1.load1 (v := .bool _) ty4 rfl rfl (hst.cellL (.head _) rfl) <| NL <| run_cond_split rfl (fun g8 => ?_) (fun g8 => ?_)
     · skip
       have hr : fm.res = true := by simpa using g8
       refine RG <| MI rfl <| CN <| Op1.addN rfl rfl rfl (wrap_i64 (by omega) (by omega)) <| AI rfl <| NL ?_
       exact cut3 ((n1 + 1)) _ w (hst) ((by rw [hJ1, b2n.eq_def fm.res, hr]; simp)) ⟨rfl, trivial⟩ ⟨rfl, trivial⟩
     have hr : fm.res = false := by simpa using g8
     refine run_skip ?_
     exact cut3 (n1) _ w (hst) ((by rw [hJ1, b2n.eq_def fm.res, hr]; rfl)) ⟨rfl, trivial⟩ ⟨rfl, trivial⟩
 · skip
   refine SR <| CN <| Op1.fieldAddr fld80_2 rfl <| CN <| Op1.load1 (v := .bool _) ty4 rfl rfl (hst.cellL (.head _) rfl) <| NL <| run_cond_split rfl (fun g9 => ?_) (fun g9 => ?_)
   · skip
     have ht : fm.ty = true := by simpa using g9
     refine RG <| MI rfl <| CN <| Op1.addN rfl rfl rfl (wrap_i64 (by omega) (by omega)) <| AI rfl <| NL ?_
     exact cut1 (2) _ w (hst) ((by rw [b2n, ht]; rfl)) ⟨rfl, rfl, trivial⟩ ⟨rfl, trivial⟩
   have ht : fm.ty = false := by simpa using g9
   refine run_skip ?_
   exact cut1 (1) _ w (hst) ((by rw [b2n, ht]; rfl)) ⟨rfl, rfl, trivial⟩ ⟨rfl, trivial⟩
end Go.SK
namespace Go.SK
open Go Go.Proofs
theorem ent91 : Enters Try.prog 91 := ⟨Try.f91, _, Try.func91, by kernel_rfl, rfl⟩
theorem ent92 : Enters Try.prog 92 := ⟨Try.f92, _, Try.func92, by kernel_rfl, rfl⟩
theorem ent72 : Enters Try.prog 72 := ⟨Try.f72, _, Try.func72, by kernel_rfl, rfl⟩
theorem ent59 : Enters Try.prog 59 := ⟨Try.f59, _, Try.func59, by kernel_rfl, rfl⟩
theorem ent60 : Enters Try.prog 60 := ⟨Try.f60, _, Try.func60, by kernel_rfl, rfl⟩
end Go.SK
namespace Go.SK
open Go Go.Proofs
open Go.RowKit
theorem R3ref4_Fault (p : InstP) (bound : Int) (h0 : 0 ≤ p.op) (w : World) (hA : (Res.rargs p).holds w) (hsm : (p.args.map argRoom).sum ≤ 900000000) (hla : ∀ a ∈ p.args, a.s.length ≤ 100000000000) : Ret Try.prog 59 #[.agg #[.int .u16 p.op, .int .u32 p.ty, .int .u32 p.res, .slice p.ao p.args.length p.cap], .int .u32 bound] w (fun v w' => v = .int .i64 (faultF bound p.L) ∧ St w NoM [] [] w') := by
 refine Ret.enter (args := [.agg #[.int .u16 p.op, .int .u32 p.ty, .int .u32 p.res, .slice p.ao p.args.length p.cap], .int .u32 bound]) Try.func59 rfl rfl rfl ?_
 have hst : St w NoM [] [Res.rargs p] w := St.init_D hA
 clear hA
 obtain ⟨fm, hfm⟩ : ∃ fm, refD p.op = fm := ⟨_, rfl⟩
 obtain ⟨ob, hob⟩ : ∃ ob, (refS p.op).isSome = ob := ⟨_, rfl⟩
 have hf : FOk fm := hfm ▸ refD_fok p.op
 have hlen := len_sum p.args
 refine SR <| CN <| Op1.box (v := .agg #[.int .u16 _, .int .u32 _, .int .u32 _, .slice _ _ _]) hst rfl rfl fun w b2 hst => AI rfl <| NSR <| CN <| Op1.fieldAddr fld48_0 rfl <| CN <| Op1.load1 (v := .int .u16 _) ty42 rfl rfl (hst.cellL (.head _) rfl) <| CN <| Op1.call1 (v1 := .int .u16 _) ent48 rfl rfl <| Ret.det (R3ref_Of2 hfm hob _) hst fun w hst => CN <| Op1.move (v := .tuple #[.agg #[.int .u16 _, str _, .bool _, .bool _, str _, str _, .int .i64 _, .int .u8 _], .bool _]) rfl <| CN <| Op1.extract (v := .agg #[.int .u16 _, str _, .bool _, .bool _, str _, str _, .int .i64 _, .int .u8 _]) rfl rfl <| CN <| Op1.extract (v := .bool _) rfl rfl <| CN <| Op1.alloc hst ty80 fun w b5 hst => CN (SO (v := .agg #[.int .u16 _, str _, .bool _, .bool _, str _, str _, .int .i64 _, .int .u8 _]) hst ty80 rfl rfl (.here) fun w hst => ?_)
 refine AB rfl <| NL <| SQ <| SR <| MB rfl <| CN <| Op1.not rfl <| NL <| run_cond_split rfl (fun g1 => ?_) (fun g1 => ?_)
 · skip
   refine SR <| AI rfl <| NL <| run_ret1 Try.func59 rfl (TP (v := .int .i64 _) rfl) ?_
   exact ⟨congrArg (Value.int .i64) (faultF_op (by rw [hob]; simpa using g1)).symm, hst.pure⟩
 refine run_skip <| SR <| CN <| Op1.fieldAddr fld80_2 rfl <| CN <| Op1.load1 (v := .bool _) ty4 rfl rfl (hst.cellL (.head _) rfl) <| CN <| Op1.fieldAddr fld48_1 rfl <| CN <| Op1.load1 (v := .int .u32 _) ty23 rfl rfl (hst.cellL (.tail _ (.head _)) rfl) <| MU rfl <| CN <| Op1.call4 (v1 := .bool _) (v2 := .int .u32 _) (v3 := .int .u32 _) (v4 := .int .i64 _) ent91 rfl rfl rfl rfl rfl <| Ret.det (R3ref4_Id _ _ _ _ _) hst fun w hst => AI rfl <| NL <| Run.forget [(1, .int .u32 _), (2, .pointer (some ⟨_, _, none⟩)), (5, .pointer (some ⟨_, _, none⟩)), (7, .int .i64 _)] ⟨rfl, rfl, rfl, rfl, trivial⟩ fun f => SQ <| SQ <| RG ?_
 refine MI rfl <| CN <| Op1.neq rfl rfl <| NL <| run_cond_dec rfl (fun g2 => ?_) (fun g2 => ?_)
 · skip
   refine SR <| MI rfl <| AI rfl <| NL <| run_ret1 Try.func59 rfl (TP (v := .int .i64 _) rfl) ?_
   have hF := faultF_eq (bound := bound) (i := p.L) (by rw [hob]; simpa using g1)
   rw [hfm] at hF
   rw [if_pos g2] at hF
   exact ⟨congrArg (Value.int .i64) (hF).symm, hst.pure⟩
 refine run_skip <| SR <| CN <| Op1.fieldAddr fld80_3 rfl <| CN <| Op1.load1 (v := .bool _) ty4 rfl rfl (hst.cellL (.head _) rfl) <| CN <| Op1.fieldAddr fld48_2 rfl <| CN <| Op1.load1 (v := .int .u32 _) ty23 rfl rfl (hst.cellL (.tail _ (.head _)) rfl) <| MU rfl <| CN <| Op1.call4 (v1 := .bool _) (v2 := .int .u32 _) (v3 := .int .u32 _) (v4 := .int .i64 _) ent91 rfl rfl rfl rfl rfl <| Ret.det (R3ref4_Id _ _ _ _ _) hst fun w hst => AI rfl <| NL <| SQ <| SR <| MI rfl ?_
 refine CN <| Op1.neq rfl rfl <| NL <| run_cond_dec rfl (fun g3 => ?_) (fun g3 => ?_)
 · skip
   refine SR <| MI rfl <| AI rfl <| NL <| run_ret1 Try.func59 rfl (TP (v := .int .i64 _) rfl) ?_
   have hF := faultF_eq (bound := bound) (i := p.L) (by rw [hob]; simpa using g1)
   rw [hfm] at hF
   rw [if_neg g2] at hF
   rw [if_pos g3] at hF
   exact ⟨congrArg (Value.int .i64) (hF).symm, hst.pure⟩
 refine run_skip <| SQ <| SR <| AI rfl <| NL <| run_block <| run_loop <| Run.indW [(1, .int .u32 _), (2, .pointer (some ⟨_, _, none⟩)), (5, .pointer (some ⟨_, _, none⟩))] ⟨rfl, rfl, rfl, trivial⟩ (fun (k : Nat) => [(8, .int .i64 (k : Int))]) (fun (k : Nat) => []) (fun (k : Nat) => k ≤ p.args.length ∧ wrongL fm bound 0 (p.args.take k) = 0) (fun (k : Nat) => p.args.length - k) (0) hst ⟨Nat.zero_le _, rfl⟩ ⟨rfl, trivial⟩ ?_
 intro k f w hst hJ ih4
 refine SQ <| SR <| MI rfl <| CN <| Op1.fieldAddr fld48_3 rfl <| CN <| Op1.load1 (v := .slice _ _ _) ty46 rfl rfl (hst.cellL (.tail _ (.head _)) rfl) <| CN <| Op1.lenSl (rest := []) ty46 rfl <| CN <| Op1.lss rfl rfl <| NL <| run_cond_dec rfl (fun g5 => ?_) (fun g5 => ?_)
 · skip
   refine run_skip <| SQ <| run_block <| SQ ?_
   have hidx : p.args.getD ((k : Int)).toNat zeroA = (p.args.getD k zeroA) := rfl
   refine RunD.start [] hst (bs := [0, 1, 0, 7, 0, 16, 0, 112, 240, 0, 1023, 2047]) (ds := [some 42, some 43, some 44, some 45, some 46, some 47, some 48, some 49, some 50, some 51, some 52, some 7]) ⟨by kernel_rfl, by kernel_rfl, by kernel_rfl⟩ (fun tab6 => ?_)
   refine RunD.op (det _) tab6 1 (fun f' L' w' hc => Op1.fieldAddr fld48_0 (hc.old (v := .pointer (some ⟨_, _, none⟩)) rfl rfl rfl) ⟨[], ⟨rfl, rfl⟩, hc.st⟩) <| RunD.op (det _) tab6 2 (fun f' L' w' hc => Op1.load1 (v := .int .u16 _) ty42 rfl (hc.det (j := 0) rfl rfl rfl rfl) (hc.st.cellL (List.mem_append_right _ (.tail _ (.head _))) rfl) ⟨[], ⟨rfl, rfl⟩, hc.st⟩) <| RunD.op (det _) tab6 3 (fun f' L' w' hc => Op1.move (v := .int .i64 _) (hc.old (v := .int .i64 _) rfl rfl rfl) ⟨[], ⟨rfl, rfl⟩, hc.st⟩) <| RunD.op (det _) tab6 4 (fun f' L' w' hc => Op1.call2 (v1 := .int .u16 _) (v2 := .int .i64 _) ent51 rfl (hc.det (j := 1) rfl rfl rfl rfl) (hc.det (j := 2) rfl rfl rfl rfl) ((R3ref_Letter2 h0 hfm _ (by omega) _).mono fun v w hp => ⟨[], ⟨hp.1, rfl⟩, hc.st.keepc hp.2⟩)) <| RunD.op (det _) tab6 5 (fun f' L' w' hc => Op1.fieldAddr fld48_3 (hc.old (v := .pointer (some ⟨_, _, none⟩)) rfl rfl rfl) ⟨[], ⟨rfl, rfl⟩, hc.st⟩) <| RunD.op (det _) tab6 6 (fun f' L' w' hc => Op1.load1 (v := .slice _ _ _) ty46 rfl (hc.det (j := 4) rfl rfl rfl rfl) (hc.st.cellL (List.mem_append_right _ (.tail _ (.head _))) rfl) ⟨[], ⟨rfl, rfl⟩, hc.st⟩) <| RunD.op (det _) tab6 7 (fun f' L' w' hc => Op1.move (v := .int .i64 _) (hc.old (v := .int .i64 _) rfl rfl rfl) ⟨[], ⟨rfl, rfl⟩, hc.st⟩) <| RunD.op (det _) tab6 8 (fun f' L' w' hc => Op1.indexRs ty46 ty71 (hc.st.hD _ (.head _)) (hc.det (j := 5) rfl rfl rfl rfl) (hc.det (j := 6) rfl rfl rfl rfl) (by omega) (by omega) ⟨[], ⟨rfl, rfl⟩, hc.st⟩) <| RunD.op (det _) tab6 9 (fun f' L' w' hc => Op1.loadA (vs := [.int .u8 _, .int .u32 _, str _]) ty71 rfl (hc.det (j := 7) rfl rfl rfl rfl) rfl (Res.rs2_cells (m := 3) (hc.st.hD _ (.head _)) _ (flat_seg (g := argC) (d := zeroA) argC_len _ _ (by omega))) ⟨[], ⟨rfl, rfl⟩, hc.st⟩) <| RunD.op (det _) tab6 10 (fun f' L' w' hc => Op1.move (v := .int .u32 _) (hc.old (v := .int .u32 _) rfl rfl rfl) ⟨[], ⟨rfl, rfl⟩, hc.st⟩) <| RunD.fin followsMixed tab6 hst rfl (fun f7 w R10 hs8 hd9 hr11 hst => ?_)
   obtain ⟨h42_, r0⟩ := hd9 0 42 rfl rfl
   obtain ⟨h43_, r1⟩ := hd9 1 43 rfl rfl
   obtain ⟨h44_, r2⟩ := hd9 2 44 rfl rfl
   obtain ⟨h45_, r3⟩ := hd9 3 45 rfl rfl
   obtain ⟨h46_, r4⟩ := hd9 4 46 rfl rfl
   obtain ⟨h47_, r5⟩ := hd9 5 47 rfl rfl
   obtain ⟨h48_, r6⟩ := hd9 6 48 rfl rfl
   obtain ⟨h49_, r7⟩ := hd9 7 49 rfl rfl
   obtain ⟨h50_, r8⟩ := hd9 8 50 rfl rfl
   obtain ⟨h51_, r9⟩ := hd9 9 51 rfl rfl
   simp only [show List.range 10 = [0, 1, 2, 3, 4, 5, 6, 7, 8, 9] from rfl, List.flatMap_cons, List.flatMap_nil, List.map_cons, List.map_nil, r0, r1, r2, r3, r4, r5, r6, r7, r8, r9, List.nil_append, List.append_nil, List.cons_append] at hst
   refine RunL.slots (sl := [(1, .int .u32 _), (2, .pointer (some ⟨_, _, none⟩)), (5, .pointer (some ⟨_, _, none⟩)), (8, .int .i64 _), (45, .int .u8 _), (50, .agg #[.int .u8 _, .int .u32 _, str _]), (51, .int .u32 _)]) ⟨(hs8 1 rfl).trans rfl, (hs8 2 rfl).trans rfl, (hs8 5 rfl).trans rfl, (hs8 8 rfl).trans rfl, h45_, h50_, h51_, trivial⟩ ?_
   clear hs8 hd9 hr11 tab6
   refine CN <| Op1.call3 (v1 := .int .u8 _) (v2 := .agg #[.int .u8 _, .int .u32 _, str _]) (v3 := .int .u32 _) ent92 rfl rfl rfl rfl <| Ret.det (R3ref4_Wrong _ (letterS_bd fm (k : Int)).1 (letterS_bd fm (k : Int)).2 (p.args.getD k zeroA) (by have := hla _ (getD_memD (l := p.args) (i := k) (d := zeroA) (by omega)); omega) bound _) hst fun w hst => AI rfl <| NSR <| MI rfl <| CN <| Op1.neq rfl rfl <| NL <| Run.forget [(1, .int .u32 _), (2, .pointer (some ⟨_, _, none⟩)), (5, .pointer (some ⟨_, _, none⟩)), (7, .int .i64 _), (8, .int .i64 _), (54, .bool _)] ⟨rfl, rfl, rfl, rfl, rfl, rfl, trivial⟩ fun f => run_cond_dec rfl (fun g12 => ?_) (fun g12 => ?_)
   · skip
     refine SR <| MI rfl <| AI rfl <| NL <| run_ret1 Try.func59 rfl (TP (v := .int .i64 _) rfl) ?_
     have hF := faultF_eq (bound := bound) (i := p.L) (by rw [hob]; simpa using g1)
     rw [hfm] at hF
     rw [if_neg g2] at hF
     rw [if_neg g3] at hF
     have hw := (wrongL_take (by omega) hJ.2).2 g12
     rw [if_pos (by (try dsimp only); rw [hw]; exact g12)] at hF
     try dsimp only at hF
     rw [hw] at hF
     exact ⟨congrArg (Value.int .i64) (hF).symm, hst.pure⟩
   refine run_skip <| run_inBlock <| RG <| MI rfl <| CN <| Op1.addN rfl rfl rfl (wrap_i64 (by omega) (by omega)) <| AI rfl <| NL <| run_inLoop ?_
   exact ih4 (k + 1) _ w (by omega) hst (⟨by omega, ((wrongL_take (by omega) hJ.2).1).trans (Classical.not_not.1 g12)⟩) ⟨rfl, rfl, rfl, trivial⟩ ⟨(congrArg (Value.int .i64) (by omega)), trivial⟩
 obtain rfl : k = p.args.length := by omega
 have hwl := hJ.2
 rw [List.take_length] at hwl
 refine run_exit (id := 0) rfl <| SQ <| SR <| CN <| Op1.loadA (vs := [.int .u16 _, str _, .bool _, .bool _, str _, str _, .int .i64 _, .int .u8 _]) ty80 rfl rfl rfl (cells_of_obj (n := 8) (hst.objL (.head _)) _ rfl) <| CN <| Op1.fieldAddr fld48_3 rfl <| CN <| Op1.load1 (v := .slice _ _ _) ty46 rfl rfl (hst.cellL (.tail _ (.head _)) rfl) <| CN <| Op1.lenSl (rest := []) ty46 rfl <| CN <| Op1.call2 (v1 := .agg #[.int .u16 _, str _, .bool _, .bool _, str _, str _, .int .i64 _, .int .u8 _]) (v2 := .int .i64 _) ent52 rfl rfl rfl <| Ret.det (R3ref4_Whole fm hf p.args.length (by omega) _) hst fun w hst => CN <| Op1.not rfl <| NL <| run_cond_split rfl (fun g13 => ?_) (fun g13 => ?_)
 · skip
   refine SR <| AI rfl <| NL <| run_ret1 Try.func59 rfl (TP (v := .int .i64 _) rfl) ?_
   have hF := faultF_eq (bound := bound) (i := p.L) (by rw [hob]; simpa using g1)
   rw [hfm] at hF
   rw [if_neg g2] at hF
   rw [if_neg g3] at hF
   rw [if_neg (fun h => h hwl)] at hF
   have hb := wrongL_none (op := p.op) (bound := bound) (l := p.args) (by rw [hfm]; exact hwl)
   have hq := wholeQ_off (fm := fm) (n := p.args.length) (fun hr => by have := bad_long (f := fm) hr (by rw [← hfm]; exact hb); rwa [List.length_map] at this)
   rw [if_pos (Classical.not_not.1 (fun hx => by have h2 := hq.2 hx; have hg := g13; rw [h2] at hg; cases hg))] at hF
   exact ⟨congrArg (Value.int .i64) (hF).symm, hst.pure⟩
 refine run_skip <| SQ <| SR <| CN <| Op1.loadA (vs := [.int .u16 _, .int .u32 _, .int .u32 _, .slice _ _ _]) ty48 rfl rfl rfl (cells_of_obj (n := 4) (hst.objL (.tail _ (.head _))) _ rfl) <| CN <| Op1.loadA (vs := [.int .u16 _, str _, .bool _, .bool _, str _, str _, .int .i64 _, .int .u8 _]) ty80 rfl rfl rfl (cells_of_obj (n := 8) (hst.objL (.head _)) _ rfl) <| CN <| Op1.call2 (v1 := .agg #[.int .u16 _, .int .u32 _, .int .u32 _, .slice _ _ _]) (v2 := .agg #[.int .u16 _, str _, .bool _, .bool _, str _, str _, .int .i64 _, .int .u8 _]) ent72 rfl rfl rfl <| Ret.det (R3ref4_Room p fm _ (hst.hD _ (.head _)) hsm hla) hst fun w hst => CN <| Op1.gtr rfl rfl <| NL <| run_cond_dec rfl (fun g14 => ?_) (fun g14 => ?_)
 · skip
   refine SR <| AI rfl <| NL <| run_ret1 Try.func59 rfl (TP (v := .int .i64 _) rfl) ?_
   have hF := faultF_eq (bound := bound) (i := p.L) (by rw [hob]; simpa using g1)
   rw [hfm] at hF
   rw [if_neg g2] at hF
   rw [if_neg g3] at hF
   rw [if_neg (fun h => h hwl)] at hF
   have hb := wrongL_none (op := p.op) (bound := bound) (l := p.args) (by rw [hfm]; exact hwl)
   have hq := wholeQ_off (fm := fm) (n := p.args.length) (fun hr => by have := bad_long (f := fm) hr (by rw [← hfm]; exact hb); rwa [List.length_map] at this)
   rw [if_neg (hq.1 (by simpa using g13))] at hF
   rw [if_pos (by (try dsimp only); omega)] at hF
   exact ⟨congrArg (Value.int .i64) (hF).symm, hst.pure⟩
 refine run_skip <| SR <| AI rfl <| NL <| run_ret1 Try.func59 rfl (TP (v := .int .i64 _) rfl) ?_
 have hF := faultF_eq (bound := bound) (i := p.L) (by rw [hob]; simpa using g1)
 rw [hfm] at hF
 rw [if_neg g2] at hF
 rw [if_neg g3] at hF
 rw [if_neg (fun h => h hwl)] at hF
 have hb := wrongL_none (op := p.op) (bound := bound) (l := p.args) (by rw [hfm]; exact hwl)
 have hq := wholeQ_off (fm := fm) (n := p.args.length) (fun hr => by have := bad_long (f := fm) hr (by rw [← hfm]; exact hb); rwa [List.length_map] at this)
 rw [if_neg (hq.1 (by simpa using g13))] at hF
 rw [if_neg (by (try dsimp only); omega)] at hF
 exact ⟨congrArg (Value.int .i64) (hF).symm, hst.pure⟩
theorem R3ref4_Raw (p : InstP) (bound : Int) (h0 : 0 ≤ p.op) (w : World) (hA : (Res.rargs p).holds w) (hsm : (p.args.map argRoom).sum ≤ 900000000) (hla : ∀ a ∈ p.args, a.s.length ≤ 100000000000) : Ret Try.prog 30 #[.agg #[.int .u16 p.op, .int .u32 p.ty, .int .u32 p.res, .slice p.ao p.args.length p.cap], .int .u32 bound] w (fun v w' => ∃ ro rc, v = .tuple #[.agg #[.int .u16 (rawF bound p.L).1.1, .slice ro (rawF bound p.L).1.2.length rc], .int .i64 (rawF bound p.L).2] ∧ St w NoM [Res.sl ro (rawF bound p.L).1.2.length rc 23 1 ((rawF bound p.L).1.2.flatMap u32C)] [] w') := by
 refine Ret.enter (args := [.agg #[.int .u16 p.op, .int .u32 p.ty, .int .u32 p.res, .slice p.ao p.args.length p.cap], .int .u32 bound]) Try.func30 rfl rfl rfl ?_
 have hst : St w NoM [] [Res.rargs p] w := St.init_D hA
 clear hA
 obtain ⟨fm, hfm⟩ : ∃ fm, refD p.op = fm := ⟨_, rfl⟩
 obtain ⟨ob, hob⟩ : ∃ ob, (refS p.op).isSome = ob := ⟨_, rfl⟩
 have hf : FOk fm := hfm ▸ refD_fok p.op
 have hlen := len_sum p.args
 have hml : (mustW fm.ty p.ty).length ≤ 1 := by unfold mustW; split <;> simp
 refine SR <| CN <| Op1.box (v := .agg #[.int .u16 _, .int .u32 _, .int .u32 _, .slice _ _ _]) hst rfl rfl fun w b2 hst => CN <| Op1.alloc hst ty45 fun w b4 hst => AI rfl <| NSR <| CN <| Op1.loadA (vs := [.int .u16 _, .int .u32 _, .int .u32 _, .slice _ _ _]) ty48 rfl rfl rfl (cells_of_obj (n := 4) (hst.objL (.tail _ (.head _))) _ rfl) <| MU rfl <| CN <| Op1.call2 (v1 := .agg #[.int .u16 _, .int .u32 _, .int .u32 _, .slice _ _ _]) (v2 := .int .u32 _) ent59 rfl rfl rfl <| Ret.det (R3ref4_Fault p bound h0 _ (hst.hD _ (.head _)) hsm hla) hst fun w hst => AI rfl <| NL <| SQ <| SQ ?_
 refine RG <| MI rfl <| CN <| Op1.neq rfl rfl <| NL <| run_cond_dec rfl (fun g1 => ?_) (fun g1 => ?_)
 · skip
   refine SR <| CN (Op1.buildStruct ty45 stf45 .nil ?_)
   refine MI rfl <| CN (SO (v := .agg #[.int .u16 _, .slice _ _ _]) hst ty45 rfl rfl (.here) fun w hst => ?_)
   refine AI rfl <| NL <| run_ret2 Try.func30 rfl (RV.cellA (vs := [.int .u16 _, .slice _ _ _]) rfl ty45 rfl rfl (cells_of_obj (n := 2) (hst.objL (.head _)) _ rfl)) (TP (v := .int .i64 _) rfl) ?_
   replace hst := hst.pick .nil
   have hI := rawF_err (bound := bound) (i := p.L) rfl g1
   rw [hI]
   exact ⟨none, 0, rfl, (hst.pushNil 23 1).noD⟩
 refine run_skip <| SR <| CN <| Op1.fieldAddr fld48_0 rfl <| CN <| Op1.load1 (v := .int .u16 _) ty42 rfl rfl (hst.cellL (.tail _ (.head _)) rfl) <| CN <| Op1.call1 (v1 := .int .u16 _) ent48 rfl rfl <| Ret.det (R3ref_Of2 hfm hob _) hst fun w hst => CN <| Op1.move (v := .tuple #[.agg #[.int .u16 _, str _, .bool _, .bool _, str _, str _, .int .i64 _, .int .u8 _], .bool _]) rfl <| CN <| Op1.extract (v := .agg #[.int .u16 _, str _, .bool _, .bool _, str _, str _, .int .i64 _, .int .u8 _]) rfl rfl <| CN <| Op1.extract (v := .bool _) rfl rfl <| CN <| Op1.alloc hst ty80 fun w b7 hst => CN (SO (v := .agg #[.int .u16 _, str _, .bool _, .bool _, str _, str _, .int .i64 _, .int .u8 _]) hst ty80 rfl rfl (.here) fun w hst => ?_)
 refine AB rfl <| NL <| SQ ?_
 replace hst := hst.pushNil 23 1
 refine RG <| CN <| Op1.fieldAddr fld48_0 rfl <| CN <| Op1.load1 (v := .int .u16 _) ty42 rfl rfl (hst.cellL (.tail _ (.tail _ (.tail _ (.head _)))) rfl) <| CN (Op1.buildStruct ty45 stf45 (.c (v := .int .u16 _) rfl (h := .nil)) ?_)
 refine CN <| Op1.alloc hst ty45 fun w b9 hst => CN (SO (v := .agg #[.int .u16 _, .slice _ _ _]) hst ty45 rfl rfl (.here) fun w hst => ?_)
 refine NL <| Run.forget [(2, .pointer (some ⟨_, _, none⟩)), (4, .pointer (some ⟨_, _, none⟩)), (7, .pointer (some ⟨_, _, none⟩)), (9, .pointer (some ⟨_, _, none⟩))] ⟨rfl, rfl, rfl, rfl, trivial⟩ fun f => SQ <| Run.cutW (L1 := [_, _]) [(2, .pointer (some ⟨_, _, none⟩)), (4, .pointer (some ⟨_, _, none⟩)), (7, .pointer (some ⟨_, _, none⟩)), (9, .pointer (some ⟨_, _, none⟩))] hst ⟨rfl, rfl, rfl, rfl, trivial⟩ (fun (q : Option Addr × Nat) => []) (fun (q : Option Addr × Nat) => [Res.row b9 45 [.int .u16 p.op, .slice q.1 (mustW fm.ty p.ty).length q.2], Res.sl q.1 (mustW fm.ty p.ty).length q.2 23 1 ((mustW fm.ty p.ty).flatMap u32C)]) (fun (q : Option Addr × Nat) => True) (fun ⟨ao1, cp1⟩ f w hst hJ1 => ?_) (fun cut2 => ?_)
 replace hst : St _ _ ([Res.row b9 45 [.int .u16 p.op, .slice ao1 (mustW fm.ty p.ty).length cp1], Res.sl ao1 (mustW fm.ty p.ty).length cp1 23 1 ((mustW fm.ty p.ty).flatMap u32C)] ++ [_, _, _]) _ _ := hst
 replace hJ1 : True := hJ1
 skip
 · skip
   refine SQ <| Run.cutW (L1 := [_, _]) [(2, .pointer (some ⟨_, _, none⟩)), (4, .pointer (some ⟨_, _, none⟩)), (9, .pointer (some ⟨_, _, none⟩))] hst ⟨rfl, rfl, rfl, trivial⟩ (fun (q : Option Addr × Nat) => []) (fun (q : Option Addr × Nat) => [Res.row b9 45 [.int .u16 p.op, .slice q.1 (headW fm p.ty p.res).length q.2], Res.sl q.1 (headW fm p.ty p.res).length q.2 23 1 ((headW fm p.ty p.res).flatMap u32C)]) (fun (q : Option Addr × Nat) => True) (fun ⟨ao2, cp2⟩ f w hst hJ2 => ?_) (fun cut4 => ?_)
   replace hst : St _ _ ([Res.row b9 45 [.int .u16 p.op, .slice ao2 (headW fm p.ty p.res).length cp2], Res.sl ao2 (headW fm p.ty p.res).length cp2 23 1 ((headW fm p.ty p.res).flatMap u32C)] ++ [_, _, _]) _ _ := hst
   replace hJ2 : True := hJ2
   skip
   · skip
     refine SQ <| SR <| AI rfl <| NL <| run_block <| run_loop <| Run.indW [(2, .pointer (some ⟨_, _, none⟩)), (4, .pointer (some ⟨_, _, none⟩)), (9, .pointer (some ⟨_, _, none⟩))] ⟨rfl, rfl, rfl, trivial⟩ (fun (q : Nat × Option Addr × Nat) => [(10, .int .i64 (q.1 : Int))]) (fun (q : Nat × Option Addr × Nat) => [Res.row b9 45 [.int .u16 p.op, .slice q.2.1 (wordsK fm p.L q.1).length q.2.2], Res.sl q.2.1 (wordsK fm p.L q.1).length q.2.2 23 1 ((wordsK fm p.L q.1).flatMap u32C)]) (fun (q : Nat × Option Addr × Nat) => q.1 ≤ p.args.length) (fun (q : Nat × Option Addr × Nat) => p.args.length - q.1) ((0, ao2, cp2)) (by (try dsimp only); rw [show (wordsK fm p.L 0) = (headW fm p.ty p.res) from List.append_nil _]; exact hst) (Nat.zero_le _) ⟨rfl, trivial⟩ ?_
     intro ⟨k, aq, cq⟩ f w hst hJ ih6
     replace hst : St _ _ ([Res.row b9 45 [.int .u16 p.op, .slice aq (wordsK fm p.L k).length cq], Res.sl aq (wordsK fm p.L k).length cq 23 1 ((wordsK fm p.L k).flatMap u32C)] ++ [_, _, _]) _ _ := hst
     replace hJ : k ≤ p.args.length := hJ
     refine Run.slots (sl := [(10, .int .i64 (k : Int))]) ⟨rfl, trivial⟩ <| SQ <| SR <| MI rfl <| CN <| Op1.fieldAddr fld48_3 rfl <| CN <| Op1.load1 (v := .slice _ _ _) ty46 rfl rfl (hst.cellL (.tail _ (.tail _ (.tail _ (.tail _ (.head _))))) rfl) <| CN <| Op1.lenSl (rest := []) ty46 rfl <| CN <| Op1.lss rfl rfl <| NL <| run_cond_dec rfl (fun g7 => ?_) (fun g7 => ?_)
     · skip
       have hstep := wordsK_step (fm := fm) (p := p.L) (k := k) (by (try dsimp only); omega)
       have hwk := wordsK_len (fm := fm) (p := p.L) (k := k)
       have hsum : sumR p.L.args k ≤ (p.args.map argRoom).sum := sumR_le
       have hmem : (p.args.getD k zeroA) ∈ p.args := getD_memD (by omega)
       have hsl := hla _ hmem
       have hidx : p.args.getD ((k : Int)).toNat zeroA = (p.args.getD k zeroA) := rfl
       have hidx2 : (p.args.getD ((k : Int)).toNat zeroA).kind = (p.args.getD k zeroA).kind := rfl
       refine run_skip <| SQ <| run_block <| SQ <| SR <| CN <| Op1.fieldAddr fld48_3 rfl <| CN <| Op1.load1 (v := .slice _ _ _) ty46 rfl rfl (hst.cellL (.tail _ (.tail _ (.tail _ (.tail _ (.head _))))) rfl) <| MI rfl <| CN <| Op1.indexRs ty46 ty71 (hst.hD _ (.head _)) rfl rfl (by omega) (by omega) <| CN <| Op1.fieldAddr fld71_0 rfl <| CN <| Op1.load1 (v := .int .u8 _) ty5 rfl rfl (Res.rs2_cellF (hst.hD _ (.head _)) (flat_cell (g := argC) (d := zeroA) argC_len rfl (by omega))) <| CN <| Op1.neq rfl rfl <| NL <| run_cond_dec rfl (fun g8 => ?_) (fun g8 => ?_)
       · skip
         refine SQ <| RunD.start [] hst (bs := [0, 1, 0, 4, 0, 28, 60, 124, 252, 511, 1023, 2047]) (ds := [some 62, some 63, some 64, some 65, some 66, some 67, some 68, some 69, some 70, some 71, some 72, none]) ⟨by kernel_rfl, by kernel_rfl, by kernel_rfl⟩ (fun tab9 => ?_)
         refine RunD.op (det _) tab9 1 (fun f' L' w' hc => Op1.fieldAddr fld45_1 (hc.old (v := .pointer (some ⟨_, _, none⟩)) rfl rfl rfl) ⟨[], ⟨rfl, rfl⟩, hc.st⟩) <| RunD.op (det _) tab9 2 (fun f' L' w' hc => Op1.load1 (v := .slice _ _ _) ty43 rfl (hc.det (j := 0) rfl rfl rfl rfl) (hc.st.cellL (List.mem_append_right _ (.head _)) rfl) ⟨[], ⟨rfl, rfl⟩, hc.st⟩) <| RunD.op (det _) tab9 3 (fun f' L' w' hc => Op1.fieldAddr fld48_3 (hc.old (v := .pointer (some ⟨_, _, none⟩)) rfl rfl rfl) ⟨[], ⟨rfl, rfl⟩, hc.st⟩) <| RunD.op (det _) tab9 4 (fun f' L' w' hc => Op1.load1 (v := .slice _ _ _) ty46 rfl (hc.det (j := 2) rfl rfl rfl rfl) (hc.st.cellL (List.mem_append_right _ (.tail _ (.tail _ (.tail _ (.tail _ (.head _)))))) rfl) ⟨[], ⟨rfl, rfl⟩, hc.st⟩) <| RunD.op (det _) tab9 5 (fun f' L' w' hc => Op1.move (v := .int .i64 _) (hc.old (v := .int .i64 _) rfl rfl rfl) ⟨[], ⟨rfl, rfl⟩, hc.st⟩) <| RunD.op (det _) tab9 6 (fun f' L' w' hc => Op1.indexRs ty46 ty71 (hc.st.hD _ (.head _)) (hc.det (j := 3) rfl rfl rfl rfl) (hc.det (j := 4) rfl rfl rfl rfl) (by omega) (by omega) ⟨[], ⟨rfl, rfl⟩, hc.st⟩) <| RunD.op (det _) tab9 7 (fun f' L' w' hc => Op1.fieldAddr fld71_1 (hc.det (j := 5) rfl rfl rfl rfl) ⟨[], ⟨rfl, rfl⟩, hc.st⟩) <| RunD.op (det _) tab9 8 (fun f' L' w' hc => Op1.load1 (v := .int .u32 _) ty23 rfl (hc.det (j := 6) rfl rfl rfl rfl) (Res.rs2_cellF (hc.st.hD _ (.head _)) (flat_cell (g := argC) (d := zeroA) argC_len rfl (by omega))) ⟨[], ⟨rfl, rfl⟩, hc.st⟩) <| RunD.op (fun v rs => ∃ b, v = .slice (some ⟨b, 0, none⟩) 1 1 ∧ rs = [Res.row b 23 (u32C (p.args.getD k zeroA).n)]) tab9 9 (fun f' L' w' hc => Op1.buildSl (z0 := [.int .u32 0]) hc.st ty43 ty23 rfl rfl (by kernel_rfl) (.c (v := .int .u32 _) (hc.det (j := 7) rfl rfl rfl rfl) (h := .nil)) fun w b hst => ⟨[_], ⟨b, rfl, rfl⟩, hst⟩) ?_
         refine RunD.fin followsMixed tab9 hst rfl (fun f10 w R13 hs11 hd12 hr14 hst => ?_)
         obtain ⟨h62_, r0⟩ := hd12 0 62 rfl rfl
         obtain ⟨h63_, r1⟩ := hd12 1 63 rfl rfl
         obtain ⟨h64_, r2⟩ := hd12 2 64 rfl rfl
         obtain ⟨h65_, r3⟩ := hd12 3 65 rfl rfl
         obtain ⟨h66_, r4⟩ := hd12 4 66 rfl rfl
         obtain ⟨h67_, r5⟩ := hd12 5 67 rfl rfl
         obtain ⟨h68_, r6⟩ := hd12 6 68 rfl rfl
         obtain ⟨h69_, r7⟩ := hd12 7 69 rfl rfl
         obtain ⟨b70, h70_, r8⟩ := hd12 8 70 rfl rfl
         simp only [show List.range 9 = [0, 1, 2, 3, 4, 5, 6, 7, 8] from rfl, List.flatMap_cons, List.flatMap_nil, List.map_cons, List.map_nil, r0, r1, r2, r3, r4, r5, r6, r7, r8, List.nil_append, List.append_nil, List.cons_append] at hst
         refine RunL.slots (sl := [(2, .pointer (some ⟨_, _, none⟩)), (4, .pointer (some ⟨_, _, none⟩)), (9, .pointer (some ⟨_, _, none⟩)), (10, .int .i64 _), (63, .slice _ _ _), (70, .slice _ _ _)]) ⟨(hs11 2 rfl).trans rfl, (hs11 4 rfl).trans rfl, (hs11 9 rfl).trans rfl, (hs11 10 rfl).trans rfl, h63_, h70_, trivial⟩ ?_
         clear hs11 hd12 hr14 tab9
         refine CN (Op1.append (news := [.int .u32 _]) hst ty43 ty23 rfl rfl (.there (.there (.here))) rfl rfl rfl (cells_of_obj (n := 1) (hst.objL (.head _)) _ rfl) rfl rfl (by omega) fun w ao15 cp16 hst => ?_)
         replace hst := hst.drop (.there (.here))
         refine CN <| Op1.fieldAddr fld45_1 rfl <| CN (SO (v := .slice _ _ _) hst ty43 rfl rfl (.there (.here)) fun w hst => ?_)
         refine NL <| run_exit (id := 1) rfl <| Run.forget [(2, .pointer (some ⟨_, _, none⟩)), (4, .pointer (some ⟨_, _, none⟩)), (9, .pointer (some ⟨_, _, none⟩)), (10, .int .i64 _)] ⟨rfl, rfl, rfl, rfl, trivial⟩ fun f => RG <| MI rfl <| CN <| Op1.addN rfl rfl rfl (wrap_i64 (by omega) (by omega)) <| AI rfl <| NL <| run_inLoop ?_
         have hy := (argW_one (a := (p.args.getD k zeroA)) (by omega)).1
         rw [show p.L.args.getD k zeroA = (p.args.getD k zeroA) from rfl, hy] at hstep
         have e1 : (wordsK fm p.L k).length + 1 = (wordsK fm p.L (k + 1)).length := by rw [hstep]; simp
         have e2 : (wordsK fm p.L k).flatMap u32C ++ [.int .u32 (p.args.getD k zeroA).n] = (wordsK fm p.L (k + 1)).flatMap u32C := by rw [hstep, List.flatMap_append]; rfl
         rw [e1] at hst
         replace hst := hst.pick (.cons (.there (.here)) (.cons (.here) (.cons (.here) (.cons (.here) (.cons (.here) .nil)))))
         exact ih6 ((k + 1, ao15, cp16)) _ w (by (try dsimp only); omega) (by (try dsimp only); rw [← e2]; exact hst) (by (try dsimp only); omega) ⟨rfl, rfl, rfl, trivial⟩ ⟨(congrArg (Value.int .i64) (by (try dsimp only); omega)), trivial⟩
       refine run_skip <| SR <| CN <| Op1.fieldAddr fld48_3 rfl <| CN <| Op1.load1 (v := .slice _ _ _) ty46 rfl rfl (hst.cellL (.tail _ (.tail _ (.tail _ (.tail _ (.head _))))) rfl) <| MI rfl <| CN <| Op1.indexRs ty46 ty71 (hst.hD _ (.head _)) rfl rfl (by omega) (by omega) <| CN <| Op1.fieldAddr fld71_2 rfl <| CN <| Op1.load1 (v := str _) ty9 rfl rfl (Res.rs2_cellF (hst.hD _ (.head _)) (flat_cell (g := argC) (d := zeroA) argC_len rfl (by omega))) <| CN (Op1.call1 (v1 := str _) ent60 rfl rfl ((R3ref1_OfText (p.args.getD k zeroA).s _ (by omega)).mono fun v w hp => ?_))
       obtain ⟨aT, cT, rfl, hp⟩ := hp
       replace hst : St _ _ (_ :: _) _ _ := hst.call0 hp
       clear hp
       have hTl := ofText_le (p.args.getD k zeroA).s
       refine CN <| Op1.move (v := .tuple #[.slice _ _ _, .int .i64 _]) rfl <| CN <| Op1.extract (v := .slice _ _ _) rfl rfl <| CN <| Op1.extract (v := .int .i64 _) rfl rfl <| AL rfl <| AI rfl <| NL <| Run.forget [(2, .pointer (some ⟨_, _, none⟩)), (4, .pointer (some ⟨_, _, none⟩)), (9, .pointer (some ⟨_, _, none⟩)), (10, .int .i64 _), (11, .slice _ _ _)] ⟨rfl, rfl, rfl, rfl, rfl, trivial⟩ fun f => SR <| AI rfl <| NL <| run_block <| run_loop ?_
       replace hst := hst.pick (.cons (.there (.here)) (.cons (.there (.here)) (.cons (.here) (.cons (.here) (.cons (.here) (.cons (.here) .nil))))))
       refine Run.indW [(2, .pointer (some ⟨_, _, none⟩)), (4, .pointer (some ⟨_, _, none⟩)), (9, .pointer (some ⟨_, _, none⟩)), (10, .int .i64 _), (11, .slice _ _ _)] ⟨rfl, rfl, rfl, rfl, rfl, trivial⟩ (fun (q : Nat × Option Addr × Nat) => [(13, .int .i64 (q.1 : Int))]) (fun (q : Nat × Option Addr × Nat) => [Res.row b9 45 [.int .u16 p.op, .slice q.2.1 ((wordsK fm p.L k).length + q.1) q.2.2], Res.sl q.2.1 ((wordsK fm p.L k).length + q.1) q.2.2 23 1 ((wordsK fm p.L k).flatMap u32C ++ ((ofTextL (p.args.getD k zeroA).s).take q.1).flatMap u32C)]) (fun (q : Nat × Option Addr × Nat) => q.1 ≤ (ofTextL (p.args.getD k zeroA).s).length) (fun (q : Nat × Option Addr × Nat) => (ofTextL (p.args.getD k zeroA).s).length - q.1) ((0, aq, cq)) (by (try dsimp only); rw [List.take_zero, List.flatMap_nil, List.append_nil (List.flatMap u32C _), Nat.add_zero]; exact hst) (Nat.zero_le _) ⟨rfl, trivial⟩ ?_
       intro ⟨n, an, cn⟩ f w hst hN ih17
       replace hst : St _ _ ([Res.row b9 45 [.int .u16 p.op, .slice an ((wordsK fm p.L k).length + n) cn], Res.sl an ((wordsK fm p.L k).length + n) cn 23 1 ((wordsK fm p.L k).flatMap u32C ++ ((ofTextL (p.args.getD k zeroA).s).take n).flatMap u32C)] ++ [_, _, _, _]) _ _ := hst
       replace hN : n ≤ (ofTextL (p.args.getD k zeroA).s).length := hN
       refine Run.slots (sl := [(13, .int .i64 (n : Int))]) ⟨rfl, trivial⟩ <| SQ <| SR <| MI rfl <| ML rfl <| CN <| Op1.lenSl (rest := []) ty43 rfl <| CN <| Op1.lss rfl rfl <| NL <| run_cond_dec rfl (fun g18 => ?_) (fun g18 => ?_)
       · skip
         have hidn : (ofTextL (p.args.getD k zeroA).s).getD ((n : Int)).toNat 0 = (ofTextL (p.args.getD k zeroA).s).getD n 0 := rfl
         refine run_skip <| SQ <| run_block ?_
         obtain ⟨bT, rfl⟩ := Res.sl_some (hst.hL _ (.tail _ (.tail _ (.head _)))) (by omega)
         refine RunD.start [] hst (bs := [0, 1, 0, 0, 12, 28, 60, 127, 255, 511]) (ds := [some 89, some 90, some 91, some 92, some 93, some 94, some 95, some 96, some 97, none]) ⟨by kernel_rfl, by kernel_rfl, by kernel_rfl⟩ (fun tab19 => ?_)
         refine RunD.op (det _) tab19 1 (fun f' L' w' hc => Op1.fieldAddr fld45_1 (hc.old (v := .pointer (some ⟨_, _, none⟩)) rfl rfl rfl) ⟨[], ⟨rfl, rfl⟩, hc.st⟩) <| RunD.op (det _) tab19 2 (fun f' L' w' hc => Op1.load1 (v := .slice _ _ _) ty43 rfl (hc.det (j := 0) rfl rfl rfl rfl) (hc.st.cellL (List.mem_append_right _ (.head _)) rfl) ⟨[], ⟨rfl, rfl⟩, hc.st⟩) <| RunD.op (det _) tab19 3 (fun f' L' w' hc => Op1.move (v := .slice _ _ _) (hc.old (v := .slice _ _ _) rfl rfl rfl) ⟨[], ⟨rfl, rfl⟩, hc.st⟩) <| RunD.op (det _) tab19 4 (fun f' L' w' hc => Op1.move (v := .int .i64 _) (hc.old (v := .int .i64 _) rfl rfl rfl) ⟨[], ⟨rfl, rfl⟩, hc.st⟩) <| RunD.op (det _) tab19 5 (fun f' L' w' hc => Op1.indexSl ty43 ty23 (hc.det (j := 2) rfl rfl rfl rfl) (hc.det (j := 3) rfl rfl rfl rfl) (by omega) (by omega) ⟨[], ⟨rfl, rfl⟩, hc.st⟩) <| RunD.op (det _) tab19 6 (fun f' L' w' hc => Op1.load1 (v := .int .u32 _) ty23 rfl (hc.det (j := 4) rfl rfl rfl rfl) (Res.sl_cell (hc.st.hL _ (List.mem_append_right _ (.tail _ (.tail _ (.head _))))) (flat_cell0 (g := u32C) (d := 0) u32C_len rfl (by omega))) ⟨[], ⟨rfl, rfl⟩, hc.st⟩) <| RunD.op (fun v rs => ∃ b, v = .slice (some ⟨b, 0, none⟩) 1 1 ∧ rs = [Res.row b 23 (u32C ((ofTextL (p.args.getD k zeroA).s).getD n 0))]) tab19 7 (fun f' L' w' hc => Op1.buildSl (z0 := [.int .u32 0]) hc.st ty43 ty23 rfl rfl (by kernel_rfl) (.c (v := .int .u32 _) (hc.det (j := 5) rfl rfl rfl rfl) (h := .nil)) fun w b hst => ⟨[_], ⟨b, rfl, rfl⟩, hst⟩) ?_
         refine RunD.fin followsMixed tab19 hst rfl (fun f20 w R23 hs21 hd22 hr24 hst => ?_)
         obtain ⟨h89_, r0⟩ := hd22 0 89 rfl rfl
         obtain ⟨h90_, r1⟩ := hd22 1 90 rfl rfl
         obtain ⟨h91_, r2⟩ := hd22 2 91 rfl rfl
         obtain ⟨h92_, r3⟩ := hd22 3 92 rfl rfl
         obtain ⟨h93_, r4⟩ := hd22 4 93 rfl rfl
         obtain ⟨h94_, r5⟩ := hd22 5 94 rfl rfl
         obtain ⟨b95, h95_, r6⟩ := hd22 6 95 rfl rfl
         simp only [show List.range 7 = [0, 1, 2, 3, 4, 5, 6] from rfl, List.flatMap_cons, List.flatMap_nil, List.map_cons, List.map_nil, r0, r1, r2, r3, r4, r5, r6, List.nil_append, List.append_nil, List.cons_append] at hst
         refine RunL.slots (sl := [(2, .pointer (some ⟨_, _, none⟩)), (4, .pointer (some ⟨_, _, none⟩)), (9, .pointer (some ⟨_, _, none⟩)), (10, .int .i64 _), (11, .slice _ _ _), (13, .int .i64 _), (90, .slice _ _ _), (95, .slice _ _ _)]) ⟨(hs21 2 rfl).trans rfl, (hs21 4 rfl).trans rfl, (hs21 9 rfl).trans rfl, (hs21 10 rfl).trans rfl, (hs21 11 rfl).trans rfl, (hs21 13 rfl).trans rfl, h90_, h95_, trivial⟩ ?_
         clear hs21 hd22 hr24 tab19
         refine CN (Op1.append (news := [.int .u32 _]) hst ty43 ty23 rfl rfl (.there (.there (.here))) rfl rfl rfl (cells_of_obj (n := 1) (hst.objL (.head _)) _ rfl) rfl rfl (by omega) fun w ao25 cp26 hst => ?_)
         replace hst := hst.drop (.there (.here))
         refine CN <| Op1.fieldAddr fld45_1 rfl <| CN (SO (v := .slice _ _ _) hst ty43 rfl rfl (.there (.here)) fun w hst => ?_)
         refine NL <| run_inBlock <| RG <| MI rfl <| CN <| Op1.addN rfl rfl rfl (wrap_i64 (by omega) (by omega)) <| AI rfl <| NL <| run_inLoop ?_
         have e3 : (wordsK fm p.L k).flatMap u32C ++ ((ofTextL (p.args.getD k zeroA).s).take n).flatMap u32C ++ [.int .u32 ((ofTextL (p.args.getD k zeroA).s).getD n 0)] = (wordsK fm p.L k).flatMap u32C ++ ((ofTextL (p.args.getD k zeroA).s).take (n + 1)).flatMap u32C := by rw [take_getD2 (d := 0) (by omega), List.flatMap_append (xs := (ofTextL (p.args.getD k zeroA).s).take n)]; simp only [List.append_assoc]; rfl
         rw [e3, Nat.add_assoc] at hst
         replace hst := hst.pick (.cons (.there (.here)) (.cons (.here) (.cons (.here) (.cons (.here) (.cons (.here) (.cons (.here) .nil))))))
         exact ih17 ((n + 1, ao25, cp26)) _ w (by (try dsimp only); omega) hst (by (try dsimp only); omega) ⟨rfl, rfl, rfl, rfl, rfl, trivial⟩ ⟨(congrArg (Value.int .i64) (by (try dsimp only); omega)), trivial⟩
       refine run_exit (id := 2) rfl <| run_inBlock <| RG <| MI rfl <| CN <| Op1.addN rfl rfl rfl (wrap_i64 (by omega) (by omega)) <| AI rfl <| NL <| run_inLoop ?_
       obtain rfl : n = (ofTextL (p.args.getD k zeroA).s).length := by omega
       have hy := (argW_text (a := (p.args.getD k zeroA)) (by omega)).1
       rw [show p.L.args.getD k zeroA = (p.args.getD k zeroA) from rfl, hy] at hstep
       have e1 : (wordsK fm p.L k).length + (ofTextL (p.args.getD k zeroA).s).length = (wordsK fm p.L (k + 1)).length := by rw [hstep]; simp
       have e2 : (wordsK fm p.L k).flatMap u32C ++ ((ofTextL (p.args.getD k zeroA).s).take (ofTextL (p.args.getD k zeroA).s).length).flatMap u32C = (wordsK fm p.L (k + 1)).flatMap u32C := by rw [hstep, List.take_length, List.flatMap_append]
       rw [e1, e2] at hst
       replace hst := hst.pick (.cons (.here) (.cons (.here) (.cons (.there (.here)) (.cons (.there (.here)) (.cons (.there (.here)) .nil)))))
       exact ih6 ((k + 1, an, cn)) _ w (by (try dsimp only); omega) hst (by (try dsimp only); omega) ⟨rfl, rfl, rfl, trivial⟩ ⟨(congrArg (Value.int .i64) (by (try dsimp only); omega)), trivial⟩
     obtain rfl : k = p.args.length := by omega
     have hall : wordsK fm p.L p.args.length = wordsI fm p.L := wordsK_all
     rw [hall] at hst
     refine run_exit (id := 0) rfl <| SR <| CN <| Op1.loadA (vs := [.int .u16 _, .slice _ _ _]) ty45 rfl rfl rfl (cells_of_obj (n := 2) (hst.objL (.head _)) _ rfl) <| CN (SO (v := .agg #[.int .u16 _, .slice _ _ _]) hst ty45 rfl rfl (.there (.there (.there (.here)))) fun w hst => ?_)
     refine AI rfl <| NL <| run_ret2 Try.func30 rfl (RV.cellA (vs := [.int .u16 _, .slice _ _ _]) rfl ty45 rfl rfl (cells_of_obj (n := 2) (hst.objL (.tail _ (.tail _ (.tail _ (.head _))))) _ rfl)) (TP (v := .int .i64 _) rfl) ?_
     replace hst := hst.pick (.cons (.there (.here)) .nil)
     have hI := rawF_ok (bound := bound) (i := p.L) (Classical.not_not.1 g1)
     rw [hI]
     dsimp only
     rw [hfm, ← hall]
     rw [← hall] at hst
     exact ⟨_, _, rfl, hst.noD⟩
   · skip
     refine SR <| CN <| Op1.fieldAddr fld80_3 rfl <| CN <| Op1.load1 (v := .bool _) ty4 rfl rfl (hst.cellL (.tail _ (.tail _ (.head _))) rfl) <| NL <| run_cond_split rfl (fun g27 => ?_) (fun g27 => ?_)
     · skip
       have hr : fm.res = true := by simpa using g27
       have hm2 : (headW fm p.ty p.res) = (mustW fm.ty p.ty) ++ [p.res] := by show (mustW fm.ty p.ty) ++ mustW fm.res p.res = _; rw [mustW.eq_def fm.res, hr]; rfl
       refine RG <| CN <| Op1.fieldAddr fld45_1 rfl <| CN <| Op1.load1 (v := .slice _ _ _) ty43 rfl rfl (hst.cellL (.head _) rfl) <| CN <| Op1.fieldAddr fld48_2 rfl <| CN <| Op1.load1 (v := .int .u32 _) ty23 rfl rfl (hst.cellL (.tail _ (.tail _ (.tail _ (.tail _ (.head _))))) rfl) <| CN (Op1.buildSl (z0 := [.int .u32 0]) hst ty43 ty23 rfl rfl (by kernel_rfl) (.c (v := .int .u32 _) rfl (h := .nil)) fun w b45 hst => ?_)
       refine CN (Op1.append (news := [.int .u32 _]) hst ty43 ty23 rfl rfl (.there (.there (.here))) rfl rfl rfl (cells_of_obj (n := 1) (hst.objL (.head _)) _ rfl) rfl rfl (by omega) fun w ao28 cp29 hst => ?_)
       replace hst := hst.drop (.there (.here))
       refine CN <| Op1.fieldAddr fld45_1 rfl <| CN (SO (v := .slice _ _ _) hst ty43 rfl rfl (.there (.here)) fun w hst => ?_)
       refine NL ?_
       replace hst := hst.pick (.cons (.there (.here)) (.cons (.here) (.cons (.here) (.cons (.here) (.cons (.here) .nil)))))
       have e1 : (mustW fm.ty p.ty).length + 1 = (headW fm p.ty p.res).length := by rw [hm2]; simp
       have e2 : (mustW fm.ty p.ty).flatMap u32C ++ [.int .u32 p.res] = (headW fm p.ty p.res).flatMap u32C := by rw [hm2]; simp
       rw [e1, e2] at hst
       exact cut4 ((ao28, cp29)) _ w (hst) (trivial) ⟨rfl, rfl, rfl, trivial⟩ trivial
     have hr : fm.res = false := by simpa using g27
     have hm2 : (headW fm p.ty p.res) = (mustW fm.ty p.ty) ++ [] := by show (mustW fm.ty p.ty) ++ mustW fm.res p.res = _; rw [mustW.eq_def fm.res, hr]; rfl
     refine run_skip ?_
     exact cut4 ((ao1, cp1)) _ w ((by (try dsimp only); rw [hm2, List.append_nil]; exact hst)) (trivial) ⟨rfl, rfl, rfl, trivial⟩ trivial
 · skip
   refine SR <| CN <| Op1.fieldAddr fld80_2 rfl <| CN <| Op1.load1 (v := .bool _) ty4 rfl rfl (hst.cellL (.tail _ (.tail _ (.head _))) rfl) <| NL <| run_cond_split rfl (fun g30 => ?_) (fun g30 => ?_)
   · skip
     have ht : fm.ty = true := by simpa using g30
     have hm1 : (mustW fm.ty p.ty) = [p.ty] := by rw [mustW, ht]; rfl
     refine RG <| CN <| Op1.fieldAddr fld45_1 rfl <| CN <| Op1.load1 (v := .slice _ _ _) ty43 rfl rfl (hst.cellL (.head _) rfl) <| CN <| Op1.fieldAddr fld48_1 rfl <| CN <| Op1.load1 (v := .int .u32 _) ty23 rfl rfl (hst.cellL (.tail _ (.tail _ (.tail _ (.tail _ (.head _))))) rfl) <| CN (Op1.buildSl (z0 := [.int .u32 0]) hst ty43 ty23 rfl rfl (by kernel_rfl) (.c (v := .int .u32 _) rfl (h := .nil)) fun w b36 hst => ?_)
     refine CN (Op1.append (news := [.int .u32 _]) hst ty43 ty23 rfl rfl (.there (.there (.here))) rfl rfl rfl (cells_of_obj (n := 1) (hst.objL (.head _)) _ rfl) rfl rfl (by omega) fun w ao31 cp32 hst => ?_)
     replace hst := hst.drop (.there (.here))
     refine CN <| Op1.fieldAddr fld45_1 rfl <| CN (SO (v := .slice _ _ _) hst ty43 rfl rfl (.there (.here)) fun w hst => ?_)
     refine NL ?_
     replace hst := hst.pick (.cons (.there (.here)) (.cons (.here) (.cons (.here) (.cons (.here) (.cons (.here) .nil)))))
     exact cut2 ((ao31, cp32)) _ w ((by (try dsimp only); rw [hm1]; exact hst)) (trivial) ⟨rfl, rfl, rfl, rfl, trivial⟩ trivial
   have ht : fm.ty = false := by simpa using g30
   have hm1 : (mustW fm.ty p.ty) = [] := by rw [mustW, ht]; rfl
   refine run_skip ?_
   exact cut2 ((none, 0)) _ w ((by (try dsimp only); rw [hm1]; exact hst)) (trivial) ⟨rfl, rfl, rfl, rfl, trivial⟩ trivial
end Go.SK
namespace Go.SK
open Go Go.Proofs
open Go.RowKit
theorem R3ref4_Raw2 {p : InstP} {bound rop re : Int} {rws : List Int} (hR : rawF bound p.L = ((rop, rws), re)) (h0 : 0 ≤ p.op) (w : World) (hA : (Res.rargs p).holds w) (hsm : (p.args.map argRoom).sum ≤ 900000000) (hla : ∀ a ∈ p.args, a.s.length ≤ 100000000000) : Ret Try.prog 30 #[.agg #[.int .u16 p.op, .int .u32 p.ty, .int .u32 p.res, .slice p.ao p.args.length p.cap], .int .u32 bound] w (fun v w' => ∃ ro rc, v = .tuple #[.agg #[.int .u16 rop, .slice ro rws.length rc], .int .i64 re] ∧ St w NoM [Res.sl ro rws.length rc 23 1 (rws.flatMap u32C)] [] w') := by
 have h := R3ref4_Raw p bound h0 w hA hsm hla
 rw [hR] at h; exact h
end Go.SK
namespace Go.SK
open Go Go.Proofs
theorem ent30 : Enters Try.prog 30 := ⟨Try.f30, _, Try.func30, by kernel_rfl, rfl⟩
end Go.SK
