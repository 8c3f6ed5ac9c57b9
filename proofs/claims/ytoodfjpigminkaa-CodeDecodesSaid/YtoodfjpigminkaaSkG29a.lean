/-
  Steps of functions, plain law, and walks of functions: what the laws rest on.
-/
import Derived.Test.YtoodfjpigminkaaSkG0d
import Derived.Test.YtoodfjpigminkaaSkG1a
import Derived.Test.YtoodfjpigminkaaSkG2a
import Derived.Test.YtoodfjpigminkaaSkG5a
import Derived.Test.YtoodfjpigminkaaSkG6a
import Derived.Test.YtoodfjpigminkaaSkG8a
import Derived.Test.YtoodfjpigminkaaSkG13a
import Derived.Test.YtoodfjpigminkaaSkG14a
set_option linter.unusedVariables false
set_option linter.unusedSimpArgs false
set_option linter.unusedSectionVars false
namespace Go.SK
open Go.RowKit Go.ChangeShapes Go.WideShapes Go.ChangeAt
theorem slice_cells {P : Program} {w : World} {r : Reach} {base : Nat} {t e : TypeId} {v : Value} (h : Value.okWide P w r base t v) (hu : P.underlying t = some (.slice e)) : v.cells.toList = [v] := by
  simp only [Value.okWide, hu, Cell.okWide, Cell.ok] at h
  cases v <;> first | rfl | (simp at h)
theorem len_sized {H : Type} {P : Program} {ts : List TypeId} {ds : List (DataW H)} (hs : (DataW.weightsEach P ts ds).all (· ≤ reachBytes) = true) {j b n : Nat} {t e : TypeId} {d : DataW H} {R : List (DataW H) → Prop} {z : Prop} (ht : ts[j]? = some t) (hd : ds[j]? = some d) (hu : P.underlying t = some (.slice e)) (hb : P.bytesOf e = b)
    (hn : n = 0 ∨ ∃ elems sp, d = .slice elems sp ∧ elems.length = n ∧ R elems) : n * b ≤ 140737488355328 := by
  rcases hn with rfl | ⟨elems, sp, rfl, rfl, _⟩
  · simp
  · have h1 := sized_slice hs ht hd hu
    have h2 := reachBytes_lt
    rw [hb] at h1
    have h3 : elems.length * b ≤ (elems.length + sp.length) * b := Nat.mul_le_mul_right _ (by omega)
    omega
end Go.SK
namespace Go.SK
open Go.RowKit Go.ChangeShapes Go.WideShapes Go.ChangeAt
theorem drop_getD2 {α : Type} {l : List α} {k : Nat} (d : α) (h : k < l.length) : l.drop k = l.getD k d :: l.drop (k + 1) := by
  rw [List.drop_eq_getElem_cons h]; simp [List.getD, h]
end Go.SK
namespace Go.SK
theorem ins_words {w : List Int} (hw : Wd w) : ∀ (k a : Nat), w.drop a = ((insF w k a).1.map (·.2)).flatMap rawW ++ w.drop (insF w k a).2
  | 0, a => rfl
  | k + 1, a => by
    rw [insF]
    split
    · rename_i hc
      have ht := ends_true hw hc.2
      have hx := hw.get a
      have ih := ins_words hw k (a + (w.getD a 0 / 65536).toNat)
      generalize hn : (w.getD a 0 / 65536).toNat = n at *
      have e1 : w.drop a = w.getD a 0 :: w.drop (a + 1) := drop_getD2 0 hc.1
      have e2 : w.drop (a + 1) = (w.drop (a + 1)).take (n - 1) ++ w.drop (a + n) := by
        conv => lhs; rw [← List.take_append_drop (n - 1) (w.drop (a + 1))]
        rw [List.drop_drop, show a + 1 + (n - 1) = a + n by omega]
      have e3 : ((w.drop (a + 1)).take (n - 1)).length = n - 1 := by rw [List.length_take, List.length_drop]; omega
      simp only [List.map_cons, List.flatMap_cons]
      rw [List.append_assoc, ← ih]
      unfold rawW
      simp only [List.cons_append]
      rw [← e2, e3, e1]
      congr 1
      omega
    · rfl
theorem decG_inv {bd : Int} : ∀ {ps : List InsW}, (decG bd ps).2.1 = 0 → ∀ p ∈ ps, (instF bd p.2.1 p.2.2).2 = 0
  | [], _, p, hp => by cases hp
  | q :: ps, h, p, hp => by
    rw [decG] at h
    split at h
    · rename_i h1; exact absurd h h1
    · rename_i h1
      split at h
      · rename_i h2; exact absurd h h2
      · rename_i h2
        cases hp with
        | head => exact Classical.not_not.1 h1
        | tail _ hp => exact decG_inv (Classical.not_not.1 h2) p hp
theorem shapeG_ok {bd : Int} : ∀ {l : List InstL} {n k : Nat}, (∀ i ∈ l, faultF bd i = 0) → n + (l.map fun i => roomI (refD i.op) i.args).sum ≤ 1048576 → shapeG bd n k l = (0, 0)
  | [], _, _, _, _ => rfl
  | i :: l, n, k, hf, h => by
    simp only [List.map_cons, List.sum_cons] at h
    rw [shapeG, if_neg (fun e => e (hf i (.head _))), if_neg (by omega)]
    exact shapeG_ok (fun x hx => hf x (.tail _ hx)) (by omega)
theorem decode_bad {b : List UInt8} (h : (decodeF b).2.1 ≠ 0) : (decodeF b).1 = (0, 0, []) := by
  unfold decodeF at h ⊢
  split
  · rfl
  · rename_i h1
    rw [if_neg h1] at h
    unfold decW at h ⊢
    split
    · rfl
    · rename_i h2
      rw [if_neg h2] at h
      split
      · rfl
      · rename_i h3
        rw [if_neg h3] at h
        exact absurd rfl h
theorem flat_raw_len (rs : List RawL) : (rs.flatMap rawW).length = (rs.map fun r => r.2.length + 1).sum := by
  induction rs with
  | nil => rfl
  | cons r rs ih => simp only [List.flatMap_cons, List.length_append, List.map_cons, List.sum_cons, rawW_len, ih]
theorem encode_decode {b : List UInt8} (h : (decodeF b).2.1 = 0) : encodeF (decodeF b).1.1 (decodeF b).1.2.1 (decodeF b).1.2.2 = (b, (0, 0)) ∧ shapeF (decodeF b).1.2.1 (decodeF b).1.2.2 = (0, 0) ∧ (decodeF b).2 = (0, 0) ∧ ((decodeF b).1.2.1 ≠ 0 ∧ ¬ (decodeF b).1.2.1 > 65536) ∧ (∀ i ∈ (decodeF b).1.2.2, faultF (decodeF b).1.2.1 i = 0 ∧ 0 ≤ i.op ∧ i.op < 65536) ∧ (decodeF b).1.2.2.length ≤ 1048576 := by
  have hs : splitE b = 0 := Classical.not_not.1 fun e => by rw [decodeF_split e] at h; exact e h
  have hlen : b.length % 4 = 0 := by
    unfold splitE at hs
    split at hs
    · cases hs
    · split at hs
      · cases hs
      · rename_i h2; exact Classical.not_not.1 h2
  rw [decodeF_words hs, splitL_ok hs] at h ⊢
  have hw := splitW_wd b
  have hjb := joinW_splitW hlen
  generalize splitW b = W at *
  by_cases h1 : (readF W).2.2.1 ≠ 0
  · rw [decW_read h1] at h; exact absurd h h1
  have h1 := Classical.not_not.1 h1
  obtain ⟨hR, hW, hH, hE⟩ := readF_good h1
  by_cases h2 : (decG (W.getD 3 0) (insR W 5).1).2.1 ≠ 0
  · unfold decW at h
    rw [hR] at h
    simp only at h
    rw [if_neg (fun e => e rfl), if_pos h2] at h
    exact absurd h h2
  have h2 := Classical.not_not.1 h2
  have hin := decG_inv h2
  have hG := decG_ok (bound := W.getD 3 0) (ps := (insR W 5).1) (fun j hj => hin _ (getD_memD hj))
  have hl5 := headE_len hH
  have hsub := ins_sub hw W.length 5
  have hend := ins_end hw W.length 5 hl5.1
  have hwords := ins_words hw W.length 5
  rw [decW_ok hR rfl hG]
  simp only
  generalize hits : (insR W 5).1 = its at *
  have hE2 : ¬ (insF W W.length 5).2 < W.length := hE
  rw [List.drop_of_length_le (i := (insF W W.length 5).2) (by omega), List.append_nil] at hwords
  have hg3 : W.getD 3 0 ≠ 0 ∧ ¬ W.getD 3 0 > 65536 := by
    have := hl5.2 3 (by omega)
    unfold hd1 wrongF at this
    rw [if_pos (by omega), if_neg (by decide), if_neg (by decide), if_pos rfl] at this
    split at this
    · cases this
    · rename_i hx; exact ⟨fun e => hx (.inl e), fun e => hx (.inr e)⟩
  have hW5 : W = [119734787, 65536, W.getD 2 0, W.getD 3 0, 0] ++ W.drop 5 := by
    have q0 := hl5.2 0 (by omega)
    have q1 := hl5.2 1 (by omega)
    have q4 := hl5.2 4 (by omega)
    unfold hd1 wrongF at q0 q1 q4
    rw [if_pos (by omega)] at q0 q1 q4
    match W, hl5.1 with
    | x0 :: x1 :: x2 :: x3 :: x4 :: r, _ =>
      simp at q0 q1 q4
      simp [q0, q1, q4]
      by_cases e : x0 = 50471687
      · rw [if_pos e] at q0; cases q0
      · rw [if_neg e] at q0
        split at q0
        · assumption
        · cases q0
  generalize hbd : W.getD 3 0 = bd at *
  have hb : ∀ p ∈ its, (instF bd p.2.1 p.2.2).1.op = p.2.1 ∧ faultF bd (instF bd p.2.1 p.2.2).1 = 0 ∧ wordsI (refD p.2.1) (instF bd p.2.1 p.2.2).1 = p.2.2 := fun p hp =>
    inst_back (hsub p hp).1 (by
      have := hin p hp
      exact Prod.ext rfl this)
  have hraw : rawsF bd (its.map fun p => (instF bd p.2.1 p.2.2).1) = its.map (·.2) := by
    unfold rawsF
    rw [List.map_map]
    refine List.map_congr_left fun p hp => ?_
    obtain ⟨b1, b2, b3⟩ := hb p hp
    simp only [Function.comp]
    rw [rawF_ok b2]
    simp only
    rw [b1, b3]
  have hwr : writeW (W.getD 2 0) bd (its.map (·.2)) = W := by
    unfold writeW; rw [← hwords]; exact hW5.symm
  have hfault : ∀ i ∈ its.map (fun p => (instF bd p.2.1 p.2.2).1), faultF bd i = 0 ∧ 0 ≤ i.op ∧ i.op < 65536 := fun i hi => by
    obtain ⟨p, hp, rfl⟩ := List.mem_map.1 hi
    obtain ⟨b1, b2, b3⟩ := hb p hp
    exact ⟨b2, by rw [b1]; exact (hsub p hp).2.1, by rw [b1]; exact (hsub p hp).2.2.1⟩
  have hrooms : ((its.map fun p => (instF bd p.2.1 p.2.2).1).map fun i => roomI (refD i.op) i.args) = (its.map (·.2)).map fun r => r.2.length + 1 := by
    rw [List.map_map, List.map_map]
    refine List.map_congr_left fun p hp => ?_
    obtain ⟨b1, b2, b3⟩ := hb p hp
    have := (words_room b2).1
    rw [b1] at this
    simp only [Function.comp]
    rw [b1, ← this, b3]
  have hshape : shapeF bd (its.map fun p => (instF bd p.2.1 p.2.2).1) = (0, 0) := by
    rw [shapeF_in hg3.1 hg3.2]
    refine shapeG_ok (fun i hi => (hfault i hi).1) ?_
    rw [hrooms, ← flat_raw_len, ← hwords, List.length_drop]
    omega
  refine ⟨?_, hshape, trivial, hg3, hfault, by rw [List.length_map]; omega⟩
  rw [(encode_good (gn := W.getD 2 0) (by rw [hshape])).1, hraw, hwr, hjb]
theorem decode_small {b : List UInt8} {dm : List InstP} (h : dm.map InstP.L = (decodeF b).1.2.2) : Small dm := by
  by_cases he : (decodeF b).2.1 ≠ 0
  · rw [decode_bad he] at h
    have : dm = [] := by simpa using h
    subst this
    exact ⟨by decide, by decide, by decide, by decide, by decide⟩
  · obtain ⟨_, _, _, _, hf, hl⟩ := encode_decode (Classical.not_not.1 he)
    rw [← h] at hf hl
    rw [List.length_map] at hl
    have key : ∀ i ∈ dm, faultF (decodeF b).1.2.1 i.L = 0 ∧ 0 ≤ i.op ∧ i.op < 65536 := fun i hi => hf i.L (List.mem_map_of_mem hi)
    have hroom : ∀ i ∈ dm, (i.args.map argRoom).sum ≤ 65535 := fun i hi => by
      have := (fault_parts (key i hi).1).2.2.2.2.2
      unfold roomI at this
      have e : i.L.args = i.args := rfl
      rw [e] at this
      omega
    refine ⟨by omega, fun i hi => (key i hi).2.1, fun i hi => (key i hi).2.2, fun i hi => Nat.le_trans (hroom i hi) (by decide), fun i hi a ha => ?_⟩
    have h1 := argRoom_sum ha
    have h2 := hroom i hi
    obtain ⟨c, hc⟩ := wrongL_all _ _ (fault_parts (key i hi).1).2.2.2.1 a ha
    by_cases k3 : a.kind = 3
    · rw [(argW_text k3).2] at h1; omega
    · rw [(wrongA_zero hc).2.2.2.1 k3]; exact Nat.zero_le _
end Go.SK
namespace Go.SK
open Go.RowKit Go.ChangeShapes Go.WideShapes Go.ChangeAt
section
variable {H : Type} {enc : TypeId × Value → H} {P : Program} {w : World} {base : Nat} {spare : Nat → Bool} {held : Bool} {M I A : TypeId}
theorem open_by {e : TypeId} (he : P.underlying e = some (.int .u8)) : ∀ fuel cs (y : DataW H × List MemPlace), DataW.trod enc P w base spare held fuel e cs = some y → ∃ a : UInt8, cs = byC a ∧ True ∧ True := fun fuel cs y h => by
  obtain ⟨n, rfl, _, hw⟩ := DataW.trod_int he h
  have := wf_u8 hw
  refine ⟨UInt8.ofNat n.toNat, ?_, trivial, trivial⟩
  rw [byC, UInt8.toNat_ofNat', show ((n.toNat % 2 ^ 8 : Nat) : Int) = n by omega]
end
end Go.SK
namespace Go.SK
open Go Go.Proofs
open Go.RowKit
theorem R3wd_CopyBytes (l : List UInt8) (ao : Option Addr) (cp : Nat) (w : World) (hA : (Res.rs ao l.length 1 (l.flatMap byC)).holds w) (hl : l.length ≤ 140737488355328) : Ret Try.prog 14 #[.slice ao l.length cp] w (fun v w' => ∃ bC, v = .slice (some ⟨bC, 0, none⟩) l.length l.length ∧ St w NoM [Res.sl (some ⟨bC, 0, none⟩) l.length l.length 5 1 (l.flatMap byC)] [] w') := by
 refine Ret.enter (args := [.slice ao l.length cp]) Try.func14 rfl rfl rfl ?_
 have hst : St w NoM [] [Res.rs ao l.length 1 (l.flatMap byC)] w := St.init_D hA
 clear hA
 refine SR <| AL rfl <| NSR <| ML rfl <| CN <| Op1.lenSl (rest := []) ty22 rfl <| CN (Op1.makeSlV hst ty22 ty5 rfl rfl rfl (by decide) (by omega) (by omega) fun w bC hst => ?_)
 rw [cpG_zero (g := byC) (d := (0 : UInt8)) (ez := [.int .u8 0]) rfl l] at hst
 refine AL rfl <| NL <| SQ <| SR <| AI rfl <| NL <| run_block <| run_loop <| Run.indW [(0, .slice _ _ _), (3, .slice _ _ _)] ⟨rfl, rfl, trivial⟩ (fun (i : Nat) => [(4, .int .i64 (i : Int))]) (fun (i : Nat) => [Res.sl (some ⟨bC, 0, none⟩) l.length l.length 5 1 ((cpG (0 : UInt8) l l.length i).flatMap byC)]) (fun (i : Nat) => i ≤ l.length) (fun (i : Nat) => l.length - i) (0) hst (Nat.zero_le _) ⟨rfl, trivial⟩ ?_
 intro i f w hst hJ ih1
 refine SQ <| SR <| MI rfl <| ML rfl <| CN <| Op1.lenSl (rest := []) ty22 rfl <| CN <| Op1.lss rfl rfl <| NL <| run_cond_dec rfl (fun g2 => ?_) (fun g2 => ?_)
 · skip
   refine run_skip <| SQ <| run_block <| RG <| ML rfl <| MI rfl <| ML rfl <| MI rfl <| CN <| Op1.indexRs ty22 ty5 (hst.hD _ (.head _)) rfl rfl (by omega) (by omega) <| CN <| Op1.load1 (v := .int .u8 _) ty5 rfl rfl (Res.rs2_cell (hst.hD _ (.head _)) (flat_cell0 (g := byC) (d := 0) byC_len rfl (by omega))) <| CN <| Op1.indexSl ty22 ty5 rfl rfl (by omega) (by omega) <| CN <| Op1.storeSl (v := .int .u8 _) hst ty5 rfl rfl rfl rfl rfl (.here) (by simp only [List.length_cons, List.length_nil]; omega) fun w hst => NL <| run_inBlock <| RG ?_
   refine MI rfl <| CN <| Op1.addN rfl rfl rfl (wrap_i64 (by omega) (by omega)) <| AI rfl <| NL <| run_inLoop ?_
   exact ih1 (i + 1) _ w (by omega) (by (try dsimp only); rw [← cpG_step (g := byC) (es := 1) byC_len (i := i) (x := byC (l.getD i 0)) (by omega) rfl]; exact hst) (by omega) ⟨rfl, rfl, trivial⟩ ⟨(congrArg (Value.int .i64) (by omega)), trivial⟩
 obtain rfl : i = l.length := by omega
 rw [cpG_all] at hst
 refine run_exit (id := 0) rfl <| SR <| ML rfl <| AL rfl <| NL <| run_ret1 Try.func14 rfl (TP (v := .slice _ _ _) rfl) ?_
 replace hst := hst.pick (.cons (.here) .nil)
 exact ⟨bC, rfl, hst.noD⟩
end Go.SK
namespace Go.SK
theorem decode_smallD {b : List UInt8} {gn bd e a : Int} {il : List InstL} (h : decodeF b = ((gn, bd, il), (e, a))) {dm : List InstP} (hd : dm.map InstP.L = il) : Small dm := decode_small (b := b) (by rw [h]; exact hd)
end Go.SK
namespace Go.SK
open Go Go.Proofs
theorem ent14 : Enters Try.prog 14 := ⟨Try.f14, _, Try.func14, by kernel_rfl, rfl⟩
end Go.SK
