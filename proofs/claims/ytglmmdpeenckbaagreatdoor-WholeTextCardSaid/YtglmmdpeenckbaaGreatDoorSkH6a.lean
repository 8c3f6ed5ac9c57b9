/-
  Steps of functions, plain law, and walks of functions: what the laws rest on.
-/
import Derived.Test.YtglmmdpeenckbaaGreatDoorSkH0c
import Derived.Test.YtglmmdpeenckbaaGreatDoorSkH3a
set_option linter.unusedVariables false
set_option linter.unusedSimpArgs false
set_option linter.unusedSectionVars false
namespace Go.SK
open Go.RowKit
theorem Rem.u6 {r : Res} {x0 x1 x2 x3 x4 x5 : Res} {L : List Res} : Rem r (x0 :: x1 :: x2 :: x3 :: x4 :: x5 :: r :: L) (x0 :: x1 :: x2 :: x3 :: x4 :: x5 :: L) := .there (.there (.there (.there (.there (.there .here)))))
theorem Sel.u6 {r r' : Res} {x0 x1 x2 x3 x4 x5 : Res} {L : List Res} : Sel r r' (x0 :: x1 :: x2 :: x3 :: x4 :: x5 :: r :: L) (x0 :: x1 :: x2 :: x3 :: x4 :: x5 :: r' :: L) := .there (.there (.there (.there (.there (.there .here)))))
theorem Q7 {α : Type} {y : α} {x0 x1 x2 x3 x4 x5 x6 : α} {L : List α} : List.Mem y (x0 :: x1 :: x2 :: x3 :: x4 :: x5 :: x6 :: y :: L) := .tail _ (.tail _ (.tail _ (.tail _ (.tail _ (.tail _ (.tail _ (.head _)))))))
theorem rg14 : List.range 14 = [0, 1, 2, 3, 4, 5, 6, 7, 8, 9, 10, 11, 12, 13] := rfl
end Go.SK
namespace Go.SK
open Go Go.Proofs Go.Shelf
def zkU : Go.Shelf.Ren := ⟨fun | 219 => 185 | 217 => 146 | 225 => 210 | 224 => 211 | 267 => 212 | 266 => 193 | 314 => 225 | n => n, fun | 9 => 9 | 3 => 3 | 4 => 4 | 5 => 5 | 46 => 170 | 146 => 286 | 51 => 22 | n => n, fun | 1 => 0 | n => n⟩
theorem zr4 : Go.Proofs.Lays.n219 Tryz.prog zkU := {
 mixed := by kernel_rfl
 f217 := Tryz.func146.trans (congrArg some Kr)
 f219 := Tryz.func185.trans (congrArg some Kr)
 f224 := Tryz.func211.trans (congrArg some Kr)
 f225 := Tryz.func210.trans (congrArg some Kr)
 f266 := Tryz.func193.trans (congrArg some Kr)
 f267 := Tryz.func212.trans (congrArg some Kr)
 f314 := Tryz.func225.trans (congrArg some Kr)
 t3 := Tryz.underlying3
 a3 := Tryz.isAgg3
 z3 := Tryz.sizeOf3
 v3 := Tryz.zeroValue3
 t4 := Tryz.underlying4
 a4 := Tryz.isAgg4
 z4 := Tryz.sizeOf4
 v4 := Tryz.zeroValue4
 t5 := Tryz.underlying5
 a5 := Tryz.isAgg5
 z5 := Tryz.sizeOf5
 v5 := Tryz.zeroValue5
 t9 := Tryz.underlying9
 a9 := Tryz.isAgg9
 z9 := Tryz.sizeOf9
 v9 := Tryz.zeroValue9
 t46 := Tryz.underlying170
 a46 := Tryz.isAgg170
 z46 := Tryz.sizeOf170
 v46 := Tryz.zeroValue170
 t51 := Tryz.underlying22
 a51 := Tryz.isAgg22
 z51 := Tryz.sizeOf22
 v51 := Tryz.zeroValue22
 t146 := Tryz.underlying286
 a146 := Tryz.isAgg286
 z146 := Tryz.sizeOf286
 v146 := Tryz.zeroValue286
 g1 := by kernel_rfl }
end Go.SK
namespace Go.SK
open Go Go.Proofs
open Go.RowKit
open Go.Shelf
theorem lx_IX (s : Tx) (c : UInt8) (w : World) : Ret Tryz.prog 185 #[str s, str [c]] w (fun v w' => v = .int .i64 (Lib.indexByte s c) ∧ St w NoM [] [] w') :=
 zfZ (Any.stringslite_Index_one zr4 ⟨s.toArray⟩ c w)
end Go.SK
namespace Go.SK
theorem zl1 : ∀ (n : Nat) (s : Tx) (k : Nat), s.length ≤ n → wsz (zdh n s k).1 ≤ 7 * s.length ∧ (zdh n s k).1.length ≤ s.length
  | 0, s, k, _ => ⟨Nat.zero_le _, Nat.zero_le _⟩
  | n + 1, s, k, hn => by
    rw [zdh]
    split
    · exact ⟨Nat.zero_le _, Nat.zero_le _⟩
    · rename_i h0
      have h0' : 0 < s.length := by rcases Nat.eq_zero_or_pos s.length with h | h; exact absurd (.inl h) h0; exact h
      split
      · have := zl1 n (s.drop 1) (k + 1) (by rw [List.length_drop]; omega)
        rw [List.length_drop] at this; omega
      · cases hp : zf7 s with
        | error e => exact ⟨Nat.zero_le _, Nat.zero_le _⟩
        | ok q =>
          obtain ⟨kd, t, m⟩ := q
          dsimp only
          have hm := zgH (kd := kd) (t := t) (m := m) h0' hp
          have := zl1 n (s.drop m) (k + m) (by rw [List.length_drop]; omega)
          rw [List.length_drop] at this
          split
          · rw [wsz, List.length_cons]; dsimp only; omega
          · exact ⟨Nat.zero_le _, Nat.zero_le _⟩
end Go.SK
namespace Go.SK
theorem zgi (s : Tx) : wsz (za7 s).1 ≤ 7 * s.length := (zl1 _ s 0 (Nat.le_refl _)).1
end Go.SK
namespace Go.SK
theorem zfV (r : Tx) : (zhd r).length ≤ r.length - 1 := by unfold zhd; rw [List.length_drop]; omega
theorem zqR : ∀ (n m : Nat) (r : Tx), r.length ≤ n → r.length ≤ m → lnN n r = lnN m r
  | 0, 0, r, _, _ => rfl
  | 0, m + 1, r, h, _ => by rw [lnN, lnN, if_pos (by omega)]
  | n + 1, 0, r, _, h => by rw [lnN, lnN, if_pos (by omega)]
  | n + 1, m + 1, r, h1, h2 => by
    rw [lnN, lnN]
    split
    · rfl
    · rw [zqR n m (zhd r) (by have := zfV r; omega) (by have := zfV r; omega)]
theorem zdG {r : Tx} (h : r.length = 0) : lnF r = [] := by
  unfold lnF; rw [h]; rfl
theorem zdR {r : Tx} (h : 0 < r.length) : lnF r = zfE r :: lnF (zhd r) := by
  unfold lnF
  rw [show r.length = (r.length - 1) + 1 by omega, lnN, if_neg (by omega), zqR (r.length - 1) (zhd r).length (zhd r) (by have := zfV r; omega) (Nat.le_refl _)]
theorem zkv (c : UInt8) (r : Tx) : zfE (c :: r) = if c.toNat = 10 then [] else c :: zfE r := by
  unfold zfE; rw [List.takeWhile_cons]
  by_cases h : c.toNat = 10
  · rw [if_pos h, if_neg (by simp [h])]
  · rw [if_neg h, if_pos (by simp [h])]
theorem zmJ : ∀ {r : Tx}, (∀ j, j < r.length → (r.getD j 0).toNat ≠ 10) → zfE r = r ∧ zhd r = []
  | [], _ => ⟨rfl, rfl⟩
  | c :: r, h => by
    have h0 : c.toNat ≠ 10 := h 0 (by simp)
    have ih := zmJ (r := r) fun j hj => h (j + 1) (by simpa using hj)
    have e : zfE (c :: r) = c :: r := by rw [zkv, if_neg h0, ih.1]
    refine ⟨e, ?_⟩
    unfold zhd; rw [e]; exact List.drop_eq_nil_of_le (by omega)
theorem zoq : ∀ {r : Tx} {k : Nat}, k < r.length → (∀ j, j < k → (r.getD j 0).toNat ≠ 10) → (r.getD k 0).toNat = 10 → zfE r = r.take k ∧ zhd r = r.drop (k + 1)
  | [], k, h, _, _ => by simp at h
  | c :: r, 0, _, _, h => by
    have h0 : c.toNat = 10 := h
    have e : zfE (c :: r) = [] := by rw [zkv, if_pos h0]
    refine ⟨e, ?_⟩
    unfold zhd; rw [e]; rfl
  | c :: r, k + 1, hk, hn, h => by
    have h0 : c.toNat ≠ 10 := hn 0 Om
    have ih := zoq (r := r) (k := k) (by simpa using hk) (fun j hj => hn (j + 1) (by omega)) h
    have e : zfE (c :: r) = (c :: r).take (k + 1) := by rw [zkv, if_neg h0, ih.1]; rfl
    refine ⟨e, ?_⟩
    unfold zhd; rw [e, List.length_take, Nat.min_eq_left (by omega)]
theorem idx_ge (l : Tx) : -1 ≤ Lib.indexByte l 10 := Lib.indexByte_ge l 10
theorem zgr : ∀ r : Tx, (Lib.indexByte r 10 = -1 ∧ ∀ j, j < r.length → (r.getD j 0).toNat ≠ 10) ∨ ∃ k, k < r.length ∧ Lib.indexByte r 10 = (k : Int) ∧ (∀ j, j < k → (r.getD j 0).toNat ≠ 10) ∧ (r.getD k 0).toNat = 10
  | [] => .inl ⟨rfl, fun j h => absurd h (Nat.not_lt_zero _)⟩
  | c :: r => by
    by_cases h : c = 10
    · subst h
      exact .inr ⟨0, by simp, rfl, fun j hj => absurd hj (Nat.not_lt_zero _), rfl⟩
    · have hb : (c == 10) = false := by rw [beq_eq_false_iff_ne]; exact h
      have h0 : c.toNat ≠ 10 := fun e => h (UInt8.toNat_inj.1 e)
      rcases zgr r with ⟨h1, h2⟩ | ⟨k, h1, h2, h3, h4⟩
      · refine .inl ⟨?_, fun j hj => ?_⟩
        · unfold Lib.indexByte; rw [hb, h1]; rfl
        · cases j with
          | zero => exact h0
          | succ j => exact h2 j (by simpa using hj)
      · refine .inr ⟨k + 1, by simpa using h1, ?_, fun j hj => ?_, h4⟩
        · unfold Lib.indexByte; rw [hb, h2]
          have : ((k : Int) == -1) = false := by rw [beq_eq_false_iff_ne]; omega
          simp only [this]; rfl
        · cases j with
          | zero => exact h0
          | succ j => exact h3 j Om
theorem zxR {r : Tx} (h : Lib.indexByte r 10 < 0) : zfE r = r ∧ zhd r = [] := by
  rcases zgr r with ⟨_, h2⟩ | ⟨k, _, h2, _, _⟩
  · exact zmJ h2
  · omega
theorem zxQ {r : Tx} (h : ¬ Lib.indexByte r 10 < 0) : Lib.indexByte r 10 < r.length ∧ zfE r = r.take (Lib.indexByte r 10).toNat ∧ zhd r = r.drop (Lib.indexByte r 10 + 1).toNat := by
  rcases zgr r with ⟨h1, h2⟩ | ⟨k, h1, h2, h3, h4⟩
  · omega
  · have := zoq h1 h3 h4
    rw [h2]; exact ⟨by omega, this.1, by rw [this.2]; congr 1⟩
theorem ztT : ∀ (n : Nat) (r : Tx), r.length ≤ n → (lnF r).length ≤ r.length
  | 0, r, h => by rw [zdG (by omega)]; exact Nat.zero_le _
  | n + 1, r, h => by
    rcases Nat.eq_zero_or_pos r.length with h0 | h0
    · rw [zdG h0]; exact Nat.zero_le _
    · have h1 := zfV r
      have := ztT n (zhd r) Om
      rw [zdR h0, List.length_cons]; omega
theorem zh1 (r : Tx) : (lnF r).length ≤ r.length := ztT _ r (Nat.le_refl _)
def lnR (t : Tx) (i : Nat) (r : Tx) : Prop := i ≤ (lnF t).length ∧ (lnF t).drop i = lnF r ∧ r.length ≤ t.length
theorem znL (t : Tx) : lnR t 0 t := ⟨Nat.zero_le _, rfl, Nat.le_refl _⟩
theorem zhj {t r : Tx} {i : Nat} (h : lnR t i r) (hr : r ≠ []) : i < (lnF t).length ∧ (lnF t).getD i [] = zfE r ∧ lnR t (i + 1) (zhd r) ∧ (zhd r).length < r.length := by
  have hp := List.length_pos_iff.2 hr
  have e := h.2.1
  rw [zdR hp] at e
  have hi : i < (lnF t).length := by
    rcases Nat.lt_or_ge i (lnF t).length with h1 | h1
    · exact h1
    · rw [List.drop_eq_nil_of_le h1] at e; cases e
  rw [List.drop_eq_getElem_cons hi] at e
  injection e with e1 e2
  have hb := zfV r
  have hl := h.2.2
  refine ⟨hi, ?_, ⟨hi, e2, by omega⟩, by omega⟩
  rw [← e1]; simp [List.getD, hi]
theorem ztQ {t : Tx} {i : Nat} (h : lnR t i []) : i = (lnF t).length := by
  have e := h.2.1
  rw [zdG (r := ([] : Tx)) rfl] at e
  have := congrArg List.length e
  rw [List.length_drop] at this
  have := h.1
  simp at *; omega
end Go.SK
namespace Go.SK
def zbc (t : Tx) : DecL := if t.length > 16777216 then zhD 4 0 else zfM 0 (lnF t) ⟨0, 0, 0, []⟩
end Go.SK
namespace Go.SK
open Go Go.Proofs
theorem ent185 : zaN Tryz.prog 185 := ⟨Tryz.f185, _, Tryz.func185, Kr, rfl⟩
theorem ent142 : zaN Tryz.prog 142 := ⟨Tryz.f142, _, Tryz.func142, Kr, rfl⟩
theorem ent82 : zaN Tryz.prog 82 := ⟨Tryz.f82, _, Tryz.func82, Kr, rfl⟩
end Go.SK
namespace Go.SK
open Go Go.Proofs
open Go.RowKit
theorem zuN (s : Tx) (w : World) (hl : s.length ≤ 140737488355328) : Ret Tryz.prog 142 #[str s, str [10]] w (fun v w' => v = .tuple #[str (zfE s), str (zhd s), .bool (decide (0 ≤ Lib.indexByte s 10))] ∧ St w NoM [] [] w') := by
 refine zav (args := [str s, str [10]]) Tryz.func142 rfl rfl rfl ?_
 have hst := St.init w
 have hix := zgr s
 have hige := idx_ge s
 have h10 : ([10] : Tx).length = 1 := rfl
 refine SR <| AS rfl <| AS rfl <| AB rfl <| NL <| SQ <| SR <| MS rfl <| MS rfl <| CN <| zaz (v1 := str _) (v2 := str _) ent185 rfl rfl rfl <| Ret.det (lx_IX s 10 _) hst fun w hst => AI rfl <| NL <| SQ ?_
 refine RG <| MI rfl <| CN <| zbo rfl rfl <| NL <| zab rfl (fun g1 => ?_) (fun g1 => ?_)
 ·refine SQ <| RunD.start [] hst (bs := [0, 0, 3, 0, 0, 0, 32, 112, 248, 7, 1023, 2047]) (ds := [some 13, some 14, some 15, some 16, some 17, some 18, some 19, some 20, some 21, some 4, some 5, some 6]) ⟨Kr, Kr, Kr⟩ (fun tab2 => ?_)
  refine DO tab2 1 (fun f' L' w' hc=> zad (v := str _) (hc.old rfl rfl rfl) hc.z) <| DO tab2 2 (fun f' L' w' hc=> zad (v := .int .i64 _) (hc.old rfl rfl rfl) hc.z) <| DO tab2 3 (fun f' L' w' hc=> zc2 ty9 (hc.d 0 rfl rfl rfl rfl) (hc.d 1 rfl rfl rfl rfl) Om Om hc.z) <| DO tab2 4 (fun f' L' w' hc=> zad (v := str _) (hc.old rfl rfl rfl) hc.z) <| DO tab2 5 (fun f' L' w' hc=> zad (v := .int .i64 _) (hc.old rfl rfl rfl) hc.z) <| DO tab2 6 (fun f' L' w' hc=> zad (v := str _) (hc.old rfl rfl rfl) hc.z) <| DO tab2 7 (fun f' L' w' hc=> zaL (rest := []) ty9 (hc.d 5 rfl rfl rfl rfl) hc.z) <| DO tab2 8 (fun f' L' w' hc=> zas (hc.d 4 rfl rfl rfl rfl) (hc.d 6 rfl rfl rfl rfl) rfl zbe hc.z) <| DO tab2 9 (fun f' L' w' hc=> zcv ty9 (hc.d 3 rfl rfl rfl rfl) (hc.d 7 rfl rfl rfl rfl) Om Om hc.z) <| DO tab2 10 (fun _ _ _ hc => Op1.assign (v := str _) (hc.d 2 rfl rfl rfl rfl) hc.z) <| RunD.fin zaw tab2 hst rfl (fun f3 w R6 hs4 hd5 hr7 hst => ?_)
  obtain ⟨h13_, r0⟩ := hd5 0 13 rfl rfl
  obtain ⟨h14_, r1⟩ := hd5 1 14 rfl rfl
  obtain ⟨h15_, r2⟩ := hd5 2 15 rfl rfl
  obtain ⟨h16_, r3⟩ := hd5 3 16 rfl rfl
  obtain ⟨h17_, r4⟩ := hd5 4 17 rfl rfl
  obtain ⟨h18_, r5⟩ := hd5 5 18 rfl rfl
  obtain ⟨h19_, r6⟩ := hd5 6 19 rfl rfl
  obtain ⟨h20_, r7⟩ := hd5 7 20 rfl rfl
  obtain ⟨h21_, r8⟩ := hd5 8 21 rfl rfl
  obtain ⟨h4_, r9⟩ := hd5 9 4 rfl rfl
  simp only [zyh, Fc, Fn, Mc, Mn, r0, r1, r2, r3, r4, r5, r6, r7, r8, r9, Na, An, Ca] at hst
  refine zaD (sl := [(4, str _), (21, str _)]) ⟨h4_, h21_, trivial⟩ ?_
  clear hs4 hd5 hr7 tab2
  refine AS rfl <| AB rfl <| NL <| zbf Tryz.func142 rfl (TP (v := str _) rfl) (TP (v := str _) rfl) (TP (v := .bool _) rfl) ?_
  obtain ⟨h1, h2, h3⟩ := zxQ (r := s) Om
  rw [h2, h3, Dt g1]
  exact ⟨rfl, hst.pure⟩
 refine zaf <| SR <| MS rfl <| AS rfl <| AS rfl <| AB rfl <| NL <| zbf Tryz.func142 rfl (TP (v := str _) rfl) (TP (v := str _) rfl) (TP (v := .bool _) rfl) ?_
 obtain ⟨h2, h3⟩ := zxR (r := s) Om
 rw [h2, h3, Df g1]
 exact ⟨rfl, hst.pure⟩
theorem zrp (s : Tx) (w : World) (hl : s.length ≤ 140737488355328) : Ret Tryz.prog 82 #[str s, str [10]] w (fun v w' => v = .tuple #[str (zfE s), str (zhd s), .bool (decide (0 ≤ Lib.indexByte s 10))] ∧ St w NoM [] [] w') := by
 refine zav (args := [str s, str [10]]) Tryz.func82 rfl rfl rfl ?_
 have hst := St.init w
 refine SR <| AS rfl <| AS rfl <| AB rfl <| NSR <| MS rfl <| MS rfl <| CN <| zaz (v1 := str _) (v2 := str _) ent142 rfl rfl rfl <| Ret.det (zuN s _ hl) hst fun w hst => CN <| Ex (str _) rfl rfl <| CN <| Ex (str _) rfl rfl <| CN <| Ex (.bool _) rfl rfl <| AS rfl ?_
 refine AS rfl <| AB rfl <| NL <| zbf Tryz.func82 rfl (TP (v := str _) rfl) (TP (v := str _) rfl) (TP (v := .bool _) rfl) ?_
 exact ⟨rfl, hst.pure⟩
theorem zkF (t : Tx) (w : World) : Ret Tryz.prog 39 #[str t] w (fun v w' => ∃ b, v = .func (.func 81) #[] #[.pointer (some ⟨b, 0, none⟩)] ∧ St w NoM [Res.row b 9 [str t]] [] w') := by
 refine zav (args := [str t]) Tryz.func39 rfl rfl rfl ?_
 have hst := St.init w
 refine SR <| CN <| zbi (v := str _) hst rfl rfl fun w b1 hst => CN <| Op1.assign (v := _) rfl <| NSR <| CN <| zce <| CN <| Op1.assign (v := .func _ _ _) rfl <| NL <| zah Tryz.func39 rfl (TP (v := .func _ _ _) rfl) ?_
 exact ⟨_, rfl, hst⟩
end Go.SK
namespace Go.SK
open Go Go.Proofs
theorem ent39 : zaN Tryz.prog 39 := ⟨Tryz.f39, _, Tryz.func39, Kr, rfl⟩
theorem ent81 : zaN Tryz.prog 81 := ⟨Tryz.f81, _, Tryz.func81, Kr, rfl⟩
end Go.SK
