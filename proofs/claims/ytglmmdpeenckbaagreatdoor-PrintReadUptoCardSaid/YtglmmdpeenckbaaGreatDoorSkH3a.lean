/-
  Steps of functions, plain law, and walks of functions: what the laws rest on.
-/
import Derived.Test.YtglmmdpeenckbaaGreatDoorSkH0c
set_option linter.unusedVariables false
set_option linter.unusedSimpArgs false
set_option linter.unusedSectionVars false
namespace Go.SK
open Go.RowKit
section
variable {P : Program} {b : Base} {k : List Item} {f : Nat → Value} {w : World} {E : Frame → World → Prop}
theorem zhQ {l : Nat} (h : Run P b k f w E) : Run P b (.code (.label l) :: k) f w E :=
  Run.step1 (fun cs => step_lone_go (by simp [stepG, stepG.exec, Base.fr])) h
theorem zjW {c : Code} (h : Run P b (.code c :: .inScope c :: k) f w E) : Run P b (.code (.scope c) :: k) f w E :=
  Run.step1 (fun cs => step_lone_go (by simp [stepG, stepG.exec, Base.fr])) h
theorem zjg {l : Nat} {k' : List Item} (hx : gotoIn l k = some k') (h : Run P b k' f w E) : Run P b (.code (.goto l) :: k) f w E :=
  Run.step1 (fun cs => step_lone_go (by simp [stepG, stepG.exec, Base.fr, hx])) h
end
section
variable {P : Program} {fn : Func} {tmps : Array Value} {w : World} {r1 r2 r3 r4 : ResultVar} {v1 v2 v3 v4 : Value}
theorem res3 (h : fn.results = #[r1, r2, r3]) (h1 : (zjV tmps r1).run P w = .ok v1 w) (h2 : (zjV tmps r2).run P w = .ok v2 w) (h3 : (zjV tmps r3).run P w = .ok v3 w) : (results fn tmps).run P w = .ok (.tuple #[v1, v2, v3]) w := by
  rw [zgN]; simp [h, Sem.run_bind, h1, h2, h3]
end
section
variable {P : Program} {fid : FuncId} {fn : Func} {n : Nat} {f : Nat → Value} {k : List Item} {w : World} {C : Value → World → Prop} {r1 r2 r3 : ResultVar} {v1 v2 v3 : Value}
theorem zbf (hf : P.funcs[fid]? = some fn) (h : fn.results = #[r1, r2, r3]) (h1 : RV P n f w r1 v1) (h2 : RV P n f w r2 v2) (h3 : RV P n f w r3 v3) (hC : C (.tuple #[v1, v2, v3]) w) :
    Run P (zcH fid n []) (.code .ret :: k) f w (zgD P fid C) :=
  zgL hf (res3 h h1 h2 h3) hC
end
end Go.SK
namespace Go.SK
open Go.RowKit
theorem Q6 {α : Type} {y : α} {x0 x1 x2 x3 x4 x5 : α} {L : List α} : List.Mem y (x0 :: x1 :: x2 :: x3 :: x4 :: x5 :: y :: L) := .tail _ (.tail _ (.tail _ (.tail _ (.tail _ (.tail _ (.head _))))))
end Go.SK
namespace Go.SK
theorem zms (c : UInt8) : zfx c = 3 ↔ zdT c = true := by
  rcases zgY c with ⟨e, b, l, d⟩ | ⟨e, b, l, d⟩ | ⟨e, b, l, d⟩ | ⟨e, b, l, d⟩ <;> rw [e, d] <;> simp
theorem ziF (c : UInt8) : zfx c = 1 ↔ zca c = true := by
  rcases zgY c with ⟨e, b, l, d⟩ | ⟨e, b, l, d⟩ | ⟨e, b, l, d⟩ | ⟨e, b, l, d⟩ <;> rw [e, b] <;> simp
theorem zjX (s : Tx) : (zch s).length ≤ s.length := by
  unfold zch; exact (List.takeWhile_sublist _).length_le
theorem zhX {s : Tx} {a : Nat} (h : a < s.length) (h1 : (s.getD a 0).toNat < 32 ∨ 126 < (s.getD a 0).toNat ∨ (s.getD a 0).toNat = 34) : zcs (s.drop a) = none := by
  rw [zeB h]; unfold znD; rw [if_pos h1]
theorem zdQ {s : Tx} {a : Nat} (h : a < s.length) (h2 : (s.getD a 0).toNat = 92) (h3 : ¬ (a + 1 < s.length ∧ ((s.getD (a + 1) 0).toNat = 34 ∨ (s.getD (a + 1) 0).toNat = 92))) (h4 : ¬ (a + 3 < s.length ∧ (s.getD (a + 1) 0).toNat = 120 ∧ zcY (s.getD (a + 2) 0) = true ∧ zcY (s.getD (a + 3) 0) = true)) : zcs (s.drop a) = none := by
  rw [zeB h]; unfold znD; rw [if_neg (by omega), if_neg (by omega), if_neg (fun q => h3 ⟨by omega, q.2⟩), if_neg (fun q => h4 ⟨by omega, q.2⟩)]
theorem zfK {s : Tx} {a : Nat} {c : UInt8} {k : Nat} (h : a < s.length) (e : zcs (s.drop a) = some (c, k)) : 1 ≤ k ∧ a + k ≤ s.length := by
  rw [zeB h] at e; unfold znD at e
  split at e
  · cases e
  split at e
  · cases e; omega
  split at e
  · cases e; omega
  split at e
  · cases e; omega
  · cases e
def zrV (o : Option (UInt8 × Nat)) : Value := .tuple #[.int .u8 ((o.getD (0, 0)).1.toNat : Int), .int .i64 ((o.getD (0, 0)).2 : Int)]
end Go.SK
namespace Go.SK
def zi8 (r : Tx) : Option (UInt8 × Nat) := (zcs (92 :: r)).map fun q => (q.1, q.2 - 1)
theorem zq4 {r : Tx} (h0 : 0 < r.length) (h : (r.getD 0 0).toNat = 34 ∨ (r.getD 0 0).toNat = 92) : zi8 r = some (r.getD 0 0, 1) := by
  unfold zi8
  rw [show zcs (92 :: r) = zcs ((92 :: r).drop 0) from rfl, zjm (by simp) rfl (by simp; omega) h]; rfl
theorem num4 {r : Tx} (h : 3 ≤ r.length) (hx : (r.getD 0 0).toNat = 120) : zba ([48] ++ r.take 3) = if zcY (r.getD 1 0) = true ∧ zcY (r.getD 2 0) = true then (((16 * zdO (r.getD 1 0) + zdO (r.getD 2 0) : Nat) : Int), 0) else (0, 62) := by
  match r, h with
  | a :: b :: c :: t, _ =>
    have ha : a = 120 := UInt8.toNat_inj.1 hx
    subst ha
    show zba [48, 120, b, c] = if zcY b = true ∧ zcY c = true then _ else _
    have hp : zbn [48, 120, b, c] = none := by
      rw [zeA, if_pos (show ziP [48, 120, b, c] from .inr (.inr ⟨by simp, rfl⟩))]
    have hs : zcJ [b, c] 0 = if zcY b = true ∧ zcY c = true then some (16 * zdO b + zdO c) else none := by
      rw [zcJ]
      by_cases hb : zcY b = true
      · rw [if_pos hb, zcJ]
        by_cases hc : zcY c = true
        · rw [if_pos hc, if_pos ⟨hb, hc⟩, zcJ]; simp
        · rw [if_neg hc, if_neg (fun q => hc q.2)]
      · rw [if_neg hb, if_neg (fun q => hb q.1)]
    by_cases hq : zcY b = true ∧ zcY c = true
    · rw [if_pos hq]; rw [if_pos hq] at hs
      exact zjn hp (by simp) (by simp) hs
    · rw [if_neg hq]; rw [if_neg hq] at hs
      exact zeC hp (by simp) (by simp) hs
theorem zt7 {r : Tx} (h : 3 ≤ r.length) (hx : (r.getD 0 0).toNat = 120) (hn : (zba ([48] ++ r.take 3)).2 = 0) : zi8 r = some (UInt8.ofNat ((zba ([48] ++ r.take 3)).1).toNat, 3) ∧ 0 ≤ (zba ([48] ++ r.take 3)).1 ∧ (zba ([48] ++ r.take 3)).1 ≤ 255 := by
  rw [num4 h hx] at hn ⊢
  split at hn
  · rename_i hq
    rw [if_pos hq]
    have h1 := (zd5 hq.1).2
    have h2 := (zd5 hq.2).2
    refine ⟨?_, by dsimp only; omega, by dsimp only; omega⟩
    unfold zi8
    rw [show zcs (92 :: r) = zcs ((92 :: r).drop 0) from rfl, zhY (by simp) rfl (by simp; omega) hx hq.1 hq.2]; rfl
  · cases hn
theorem zt6 {r : Tx} (h : 3 ≤ r.length) (hx : (r.getD 0 0).toNat = 120) (hn : (zba ([48] ++ r.take 3)).2 ≠ 0) : zi8 r = none := by
  rw [num4 h hx] at hn
  split at hn
  · exact absurd rfl hn
  · rename_i hq
    unfold zi8
    rw [show zcs (92 :: r) = zcs ((92 :: r).drop 0) from rfl, zdQ (by simp) rfl (fun q => ?_) (fun q => hq ⟨q.2.2.1, q.2.2.2⟩)]; rfl
    have : ((92 :: r).getD (0 + 1) 0).toNat = 120 := hx
    omega
theorem zw9 {r : Tx} (h0 : 0 < r.length) (h : ¬ ((r.getD 0 0).toNat = 34 ∨ (r.getD 0 0).toNat = 92)) (hx : ¬ ((r.getD 0 0).toNat = 120 ∧ 3 ≤ r.length)) : zi8 r = none := by
  unfold zi8
  rw [show zcs (92 :: r) = zcs ((92 :: r).drop 0) from rfl, zdQ (by simp) rfl (fun q => h q.2) (fun q => hx ⟨q.2.1, by have := q.1; simp at this; omega⟩)]; rfl
theorem zqN {s : Tx} {a : Nat} (h : a < s.length) (hc : (s.getD a 0).toNat = 92) : zcs (s.drop a) = (zi8 (s.drop (a + 1))).map fun q => (q.1, q.2 + 1) := by
  have e : s.drop a = 92 :: s.drop (a + 1) := by
    rw [zi9 h]; congr 1; exact UInt8.toNat_inj.1 hc
  unfold zi8
  rw [e]
  cases hp : zcs (92 :: s.drop (a + 1)) with
  | none => rfl
  | some q =>
    have := zfK (s := 92 :: s.drop (a + 1)) (a := 0) (c := q.1) (k := q.2) (by simp) hp
    simp only [Option.map_some]; congr 1
    exact Prod.ext rfl (by show q.2 = q.2 - 1 + 1; omega)
end Go.SK
namespace Go.SK
theorem zml {s : Tx} {c : UInt8} {k : Nat} (e : zcs s = some (c, k)) : 1 ≤ k ∧ k ≤ s.length := by
  cases s with
  | nil => cases e
  | cons a r => have := zfK (s := a :: r) (a := 0) (by simp) e; omega
theorem znA : ∀ (n m : Nat) (s : Tx), s.length ≤ n → s.length ≤ m → quoN n s = quoN m s
  | 0, 0, s, _, _ => rfl
  | 0, m + 1, s, h, _ => by
    obtain rfl := List.length_eq_zero_iff.1 (Nat.le_zero.1 h); rfl
  | n + 1, 0, s, _, h => by
    obtain rfl := List.length_eq_zero_iff.1 (Nat.le_zero.1 h); rfl
  | n + 1, m + 1, s, h1, h2 => by
    rw [quoN, quoN]
    split
    · rfl
    · split
      · rfl
      · cases hp : zcs s with
        | none => rfl
        | some q =>
          have := zml (c := q.1) (k := q.2) hp
          dsimp only
          rw [znA n m (s.drop q.2) (by rw [List.length_drop]; omega) (by rw [List.length_drop]; omega)]
theorem ztt {s : Tx} {a : Nat} (h : s.length ≤ a) : zgR s a = none := by
  unfold zgR; rw [List.drop_eq_nil_of_le h, show s.length - a = 0 by omega]; rfl
theorem zpt {s : Tx} {a : Nat} (h : a < s.length) : zgR s a = if (s.getD a 0).toNat = 34 then some ([], 1) else match zcs (s.drop a) with
    | none => none
    | some (c, k) => (quoN (s.length - a - 1) ((s.drop a).drop k)).map fun q => (c :: q.1, k + q.2) := by
  unfold zgR
  rw [show s.length - a = (s.length - a - 1) + 1 by omega, quoN, if_neg (by rw [List.length_drop]; omega)]
  have e : (s.drop a).getD 0 0 = s.getD a 0 := by rw [zdv]; rfl
  rw [e]; rfl
theorem zvK {s : Tx} {a : Nat} (h : a < s.length) (h1 : (s.getD a 0).toNat = 34) : zgR s a = some ([], 1) := by
  rw [zpt h, if_pos h1]
theorem zjj {s : Tx} {a : Nat} (h : a < s.length) (h1 : ¬ (s.getD a 0).toNat = 34) (h2 : zcs (s.drop a) = none) : zgR s a = none := by
  rw [zpt h, if_neg h1, h2]
theorem zvJ {s : Tx} {a k : Nat} {c : UInt8} (h : a < s.length) (h1 : ¬ (s.getD a 0).toNat = 34) (h2 : zcs (s.drop a) = some (c, k)) : zgR s a = (zgR s (a + k)).map fun q => (c :: q.1, k + q.2) := by
  rw [zpt h, if_neg h1, h2]
  dsimp only
  unfold zgR
  have hk := zfK h h2
  rw [List.drop_drop, znA (s.length - a - 1) (s.length - (a + k)) _ (by rw [List.length_drop]; omega) (by rw [List.length_drop]; omega)]
def zvL (s : Tx) (a i : Nat) (b : Tx) : Prop := a ≤ i ∧ i ≤ s.length ∧ b.length + a ≤ i ∧ zgR s a = (zgR s i).map fun q => (b ++ q.1, (i - a) + q.2)
theorem zlp {s : Tx} {a : Nat} (h : a ≤ s.length) : zvL s a a [] := by
  refine ⟨Nat.le_refl _, h, by simp, ?_⟩
  cases zgR s a with
  | none => rfl
  | some q => simp
theorem znB {s : Tx} {a i : Nat} {b : Tx} (h : zvL s a i b) (hi : i < s.length) (h1 : (s.getD i 0).toNat = 34) : zgR s a = some (b, i - a + 1) := by
  rw [h.2.2.2, zvK hi h1]; simp
theorem zfn {s : Tx} {a i : Nat} {b : Tx} (h : zvL s a i b) (hn : zgR s i = none) : zgR s a = none := by
  rw [h.2.2.2, hn]; rfl
theorem zj1 {s : Tx} {a i k : Nat} {b : Tx} {c : UInt8} (h : zvL s a i b) (hi : i < s.length) (h1 : ¬ (s.getD i 0).toNat = 34) (h2 : zcs (s.drop i) = some (c, k)) : zvL s a (i + k) (b ++ [c]) := by
  have hk := zfK hi h2
  refine ⟨by have := h.1; omega, hk.2, by rw [List.length_append, List.length_singleton]; have := h.2.2.1; omega, ?_⟩
  rw [h.2.2.2, zvJ hi h1 h2]
  cases zgR s (i + k) with
  | none => rfl
  | some q =>
    simp only [Option.map_some, List.append_assoc, List.singleton_append]
    congr 2
    have := h.1; omega
theorem quoP_none {o : Option (Tx × Nat)} : (zrR o).2 = 0 ↔ o = none := by
  cases o with
  | none => exact ⟨fun _ => rfl, fun _ => rfl⟩
  | some q => exact ⟨fun h => absurd h (Nat.succ_ne_zero _), fun h => by cases h⟩
theorem zqZ {α : Type} {o : Option (α × Nat)} {d : α} (hpos : ∀ c k, o = some (c, k) → 1 ≤ k) (h : (o.getD (d, 0)).2 = 0) : o = none := by
  cases o with
  | none => rfl
  | some q => have := hpos q.1 q.2 rfl; simp at h; omega
theorem zqY {α : Type} {o : Option (α × Nat)} {d : α} (h : ¬ (o.getD (d, 0)).2 = 0) : o = some ((o.getD (d, 0)).1, (o.getD (d, 0)).2) := by
  cases o with
  | none => exact absurd rfl h
  | some q => rfl
theorem zxV {r : Tx} {c : UInt8} {k : Nat} (h : zi8 r = some (c, k)) : 1 ≤ k := by
  unfold zi8 at h
  cases hp : zcs (92 :: r) with
  | none => rw [hp] at h; cases h
  | some q =>
    have : 2 ≤ q.2 := by
      have hpp : zcs ((92 :: r).drop 0) = some q := hp
      rw [zeB (by simp)] at hpp
      unfold znD at hpp
      have e92 : ((92 :: r).getD 0 0).toNat = 92 := rfl
      rw [if_neg (by omega), if_neg (by omega)] at hpp
      split at hpp
      · cases hpp; show 2 ≤ 2; omega
      · split at hpp
        · cases hpp; show 2 ≤ 4; omega
        · cases hpp
    rw [hp] at h; cases h
    show 1 ≤ q.2 - 1; omega
theorem zrU {x : Int} {k : Nat} (h : 0 ≤ x ∧ x ≤ 255) : Value.tuple #[.int .u8 x, .int .i64 (k : Int)] = zrV (some (UInt8.ofNat x.toNat, k)) := by
  have : ((UInt8.ofNat x.toNat).toNat : Int) = x := by rw [UInt8.toNat_ofNat']; omega
  unfold zrV; dsimp only [Option.getD]; rw [this]
theorem zrT {s : Tx} {a : Nat} (h : a < s.length) (h1 : ¬ ((s.getD a 0).toNat < 32 ∨ 126 < (s.getD a 0).toNat)) (h2 : (s.getD a 0).toNat ≠ 34) (h3 : (s.getD a 0).toNat ≠ 92) : zcs (s.drop a) = some (s.getD a 0, 1) := zmm h Om h3
theorem ztA {s : Tx} {a : Nat} (h : a < s.length) (hc : (s.getD a 0).toNat = 92) (hn : ¬ ((zi8 (s.drop (a + 1))).getD (0, 0)).2 = 0) : zcs (s.drop a) = some (((zi8 (s.drop (a + 1))).getD (0, 0)).1, ((zi8 (s.drop (a + 1))).getD (0, 0)).2 + 1) := by
  rw [zqN h hc]
  have := zqY hn
  rw [this]; rfl
theorem ztB {s : Tx} {a : Nat} (h : a < s.length) (hc : (s.getD a 0).toNat = 92) (hn : ((zi8 (s.drop (a + 1))).getD (0, 0)).2 = 0) : zcs (s.drop a) = none := by
  rw [zqN h hc, zqZ (fun c k => zxV) hn]; rfl
theorem zts : ∀ (n : Nat) (s t : Tx) (m : Nat), quoN n s = some (t, m) → 1 ≤ m ∧ m ≤ s.length ∧ t.length + 1 ≤ m
  | 0, s, t, m, h => by cases h
  | n + 1, s, t, m, h => by
    rw [quoN] at h
    split at h
    · cases h
    · rename_i h0
      split at h
      · cases h; simp; omega
      · cases hp : zcs s with
        | none => rw [hp] at h; cases h
        | some q =>
          rw [hp] at h; dsimp only at h
          have hk := zml (c := q.1) (k := q.2) hp
          cases hr : quoN n (s.drop q.2) with
          | none => rw [hr] at h; cases h
          | some r =>
            rw [hr] at h; cases h
            have := zts n _ r.1 r.2 hr
            rw [List.length_drop] at this
            simp only [List.length_cons]; omega
end Go.SK
namespace Go.SK
section
variable {s : Tx} {a : Nat}
theorem zl5 (h1 : ¬ zfv (s.getD a 0) = true) (h2 : ¬ (s.getD a 0).toNat = 37) (h3 : ¬ zdT (s.getD a 0) = true) (h4 : ¬ (s.getD a 0).toNat = 45) (h5 : ¬ (s.getD a 0).toNat = 34) (h6 : ¬ (s.getD a 0).toNat = 61) : zf7 (s.drop a) = .error 60 := by
  unfold zf7; dsimp only; rw [zdB, if_neg h1, if_neg h2, if_neg (fun q => q.elim h3 h4), if_neg h5, if_neg h6]
theorem zqw (h : (s.getD a 0).toNat = 37) (hp : ¬ (zbn (zch (s.drop (a + 1)))).isSome = true) : zf7 (s.drop a) = .error 62 := by rw [zqx h, if_neg hp]
theorem zhJ {t : Tx} (h : zdT (s.getD a 0) = true ∨ (s.getD a 0).toNat = 45) (ht : (s.drop a).take (1 + (zch (s.drop (a + 1))).length) = t) (hp : ¬ (zba t).2 = 0) : zf7 (s.drop a) = .error 62 := by rw [zl3 h, ht, if_neg hp]
theorem znf (h : (s.getD a 0).toNat = 34) (hq : (zrR (zgR s (a + 1))).2 = 0) : zf7 (s.drop a) = .error 61 := by rw [zl2 h, quoP_none.1 hq]
end
theorem zqQ (s : Tx) : (zba s).2 = 0 ∨ (zba s).2 = 62 := by
  unfold zba
  split
  · exact .inl rfl
  · split
    · split
      · split
        · exact .inl rfl
        · exact .inr rfl
      · exact .inr rfl
    · split
      · exact .inr rfl
      · split
        · exact .inl rfl
        · exact .inr rfl
theorem zgH {s t : Tx} {kd : Int} {m : Nat} (h0 : 0 < s.length) (h : zf7 s = .ok (kd, t, m)) : 1 ≤ m ∧ m ≤ s.length ∧ t.length ≤ m ∧ 1 ≤ kd ∧ kd ≤ 5 := by
  have hs : s.drop 0 = s := rfl
  have h1 : s.drop (0 + 1) = s.drop 1 := rfl
  have hr := zjX (s.drop 1)
  rw [List.length_drop] at hr
  by_cases hl : zfv (s.getD 0 0) = true
  · have e := zhI (a := 0) hl
    rw [hs, h] at e; cases e
    have := zhO (s := s) (i := 0) h0 (zxB hl)
    rw [hs] at this
    exact ⟨by omega, zjX s, Nat.le_refl _, by omega, by omega⟩
  by_cases h37 : (s.getD 0 0).toNat = 37
  · have e := zqx (a := 0) h37
    rw [hs, h, h1] at e; split at e
    · cases e; exact ⟨by omega, by omega, by omega, by omega, by omega⟩
    · cases e
  by_cases hd : zdT (s.getD 0 0) = true ∨ (s.getD 0 0).toNat = 45
  · have e := zl3 (a := 0) hd
    rw [hs, h, h1] at e; split at e
    · cases e
      rw [List.length_take]
      exact ⟨by omega, by omega, by omega, by omega, by omega⟩
    · cases e
  by_cases h34 : (s.getD 0 0).toNat = 34
  · have e := zl2 (a := 0) h34
    rw [hs, h] at e
    cases hq : zgR s (0 + 1) with
    | none => rw [hq] at e; cases e
    | some q =>
      rw [hq] at e; cases e
      have hq2 := zts _ _ q.1 q.2 hq
      rw [List.length_drop] at hq2
      exact ⟨by omega, by omega, by omega, by omega, by omega⟩
  by_cases h61 : (s.getD 0 0).toNat = 61
  · have e := zng (a := 0) h61
    rw [hs, h] at e; cases e
    exact ⟨by omega, by omega, by simp, by omega, by omega⟩
  · have e := zl5 (a := 0) hl h37 (fun q => hd (.inl q)) (fun q => hd (.inr q)) h34 h61
    rw [hs, h] at e; cases e
theorem zqz {s : Tx} {e : Int} (h : zf7 s = .error e) : e = 60 ∨ e = 61 ∨ e = 62 := by
  unfold zf7 at h; dsimp only at h
  split at h
  · cases h
  split at h
  · split at h
    · cases h
    · cases h; omega
  split at h
  · split at h
    · cases h
    · cases h; omega
  split at h
  · split at h
    · cases h; omega
    · cases h
  split at h
  · cases h
  · cases h; omega
theorem ziB : ∀ (n m : Nat) (s : Tx) (k : Nat), s.length ≤ n → s.length ≤ m → zdh n s k = zdh m s k
  | 0, 0, s, _, _, _ => rfl
  | 0, m + 1, s, k, h, _ => by
    obtain rfl := List.length_eq_zero_iff.1 (Nat.le_zero.1 h); rfl
  | n + 1, 0, s, k, _, h => by
    obtain rfl := List.length_eq_zero_iff.1 (Nat.le_zero.1 h); rfl
  | n + 1, m + 1, s, k, h1, h2 => by
    rw [zdh, zdh]
    split
    · rfl
    · rename_i h0
      have h0' : 0 < s.length := by rcases Nat.eq_zero_or_pos s.length with h | h; exact absurd (.inl h) h0; exact h
      split
      · exact ziB n m _ _ (by rw [List.length_drop]; omega) (by rw [List.length_drop]; omega)
      · cases hp : zf7 s with
        | error e => rfl
        | ok q =>
          have := zgH (kd := q.1) (t := q.2.1) (m := q.2.2) h0' hp
          dsimp only
          rw [ziB n m (s.drop q.2.2) _ (by rw [List.length_drop]; omega) (by rw [List.length_drop]; omega)]
def zhb (s : Tx) (i : Nat) : List TokL × (Int × Int) := zdh (s.length - i) (s.drop i) i
theorem zvu {s : Tx} {i : Nat} (h : s.length ≤ i ∨ (s.getD i 0).toNat = 59) : zhb s i = ([], (0, 0)) := by
  unfold zhb
  rcases Nat.lt_or_ge i s.length with hi | hi
  · rw [show s.length - i = (s.length - i - 1) + 1 by omega, zdh, if_pos (.inr (by rw [zdB]; rcases h with h | h; omega; exact h))]
  · rw [List.drop_eq_nil_of_le hi, show s.length - i = 0 by omega]; rfl
theorem zl0 {s : Tx} {i : Nat} (hi : i < s.length) (h1 : ¬ (s.getD i 0).toNat = 59) : zhb s i = if zca (s.getD i 0) = true then zdh (s.length - i - 1) (s.drop (i + 1)) (i + 1) else match zf7 (s.drop i) with
    | .error e => ([], (e, (i : Int)))
    | .ok (kd, t, m) =>
        let r := zdh (s.length - i - 1) ((s.drop i).drop m) (i + m)
        if r.2.1 = 0 then (⟨kd, t, (i : Int)⟩ :: r.1, (0, 0)) else ([], r.2) := by
  unfold zhb
  rw [show s.length - i = (s.length - i - 1) + 1 by omega, zdh, if_neg (by rw [zdB, List.length_drop]; omega), zdB, zwn]; rfl
theorem zrE {s : Tx} {i : Nat} (hi : i < s.length) (h1 : ¬ (s.getD i 0).toNat = 59) (h2 : zca (s.getD i 0) = true) : zhb s i = zhb s (i + 1) := by
  rw [zl0 hi h1, if_pos h2]; unfold zhb; rw [show s.length - i - 1 = s.length - (i + 1) by omega]
theorem zvt {s : Tx} {i : Nat} {e : Int} (hi : i < s.length) (h1 : ¬ (s.getD i 0).toNat = 59) (h2 : ¬ zca (s.getD i 0) = true) (h : zf7 (s.drop i) = .error e) : zhb s i = ([], (e, (i : Int))) := by
  rw [zl0 hi h1, if_neg h2, h]
theorem zxx {s t : Tx} {i m : Nat} {kd : Int} (hi : i < s.length) (h1 : ¬ (s.getD i 0).toNat = 59) (h2 : ¬ zca (s.getD i 0) = true) (h : zf7 (s.drop i) = .ok (kd, t, m)) : zhb s i = if (zhb s (i + m)).2.1 = 0 then (⟨kd, t, (i : Int)⟩ :: (zhb s (i + m)).1, (0, 0)) else ([], (zhb s (i + m)).2) := by
  rw [zl0 hi h1, if_neg h2, h]
  have hm := zgH (by rw [List.length_drop]; omega) h
  rw [List.length_drop] at hm
  dsimp only
  unfold zhb
  rw [List.drop_drop, ziB (s.length - i - 1) (s.length - (i + m)) _ _ (by rw [List.length_drop]; omega) (by rw [List.length_drop]; omega)]
theorem zvv (s : Tx) : za7 s = zhb s 0 := rfl
def ztX (l : List TokL) (r : List TokL × (Int × Int)) : List TokL × (Int × Int) := if r.2.1 = 0 then (l ++ r.1, (0, 0)) else ([], r.2)
def zjI (s : Tx) (i : Nat) (l : List TokL) : Prop := i ≤ s.length ∧ l.length ≤ i ∧ za7 s = ztX l (zhb s i)
theorem ziA : ∀ (n : Nat) (s : Tx) (k : Nat), (zdh n s k).2.1 = 0 → (zdh n s k).2 = (0, 0)
  | 0, s, k, _ => rfl
  | n + 1, s, k, h => by
    rw [zdh] at h ⊢
    split
    · rfl
    · rename_i h0
      rw [if_neg h0] at h
      split
      · rename_i hb; rw [if_pos hb] at h; exact ziA n _ _ h
      · rename_i hb
        rw [if_neg hb] at h
        cases hp : zf7 s with
        | error e =>
          rw [hp] at h; dsimp only at h
          have := zqz hp; omega
        | ok q =>
          rw [hp] at h
          dsimp only at h ⊢
          split
          · rfl
          · rename_i h3
            rw [if_neg h3] at h
            exact absurd h h3
theorem zjG (s : Tx) : zjI s 0 [] := by
  refine ⟨Nat.zero_le _, Nat.le_refl _, ?_⟩
  unfold ztX; rw [← zvv]
  split
  · rename_i h; have := ziA _ _ _ h; exact Prod.ext rfl this
  · rename_i h
    have : (za7 s).1 = [] := by
      have hz : ∀ (n : Nat) (s : Tx) (k : Nat), ¬ (zdh n s k).2.1 = 0 → (zdh n s k).1 = [] := fun n => by
        induction n with
        | zero => intro s k h; exact absurd rfl h
        | succ n ih =>
          intro s k h
          rw [zdh] at h ⊢
          split
          · rfl
          · rename_i h0; rw [if_neg h0] at h
            split
            · rename_i hb; rw [if_pos hb] at h; exact ih _ _ h
            · rename_i hb; rw [if_neg hb] at h
              cases hp : zf7 s with
              | error e => rfl
              | ok q =>
                rw [hp] at h; dsimp only at h ⊢
                split
                · rename_i h3; rw [if_pos h3] at h; exact absurd rfl h
                · rfl
      exact hz _ _ _ h
    exact Prod.ext this rfl
theorem zjH {s : Tx} {i : Nat} {l : List TokL} (h : zjI s i l) (hi : i < s.length) (h1 : ¬ (s.getD i 0).toNat = 59) (h2 : zca (s.getD i 0) = true) : zjI s (i + 1) l :=
  ⟨hi, by have := h.2.1; omega, by rw [h.2.2, zrE hi h1 h2]⟩
theorem zhG {s : Tx} {i : Nat} {l : List TokL} (h : zjI s i l) (h1 : s.length ≤ i ∨ (s.getD i 0).toNat = 59) : za7 s = (l, (0, 0)) := by
  rw [h.2.2, zvu h1]; unfold ztX; rw [if_pos rfl, List.append_nil]
theorem zne {s : Tx} {i : Nat} {l : List TokL} {e : Int} (h : zjI s i l) (hi : i < s.length) (h1 : ¬ (s.getD i 0).toNat = 59) (h2 : ¬ zca (s.getD i 0) = true) (h3 : zf7 (s.drop i) = .error e) : za7 s = ([], (e, (i : Int))) := by
  have he := zqz h3
  rw [h.2.2, zvt hi h1 h2 h3]; unfold ztX; rw [if_neg (by dsimp only; omega)]
theorem zqv {s t : Tx} {i m : Nat} {kd : Int} {l : List TokL} (h : zjI s i l) (hi : i < s.length) (h1 : ¬ (s.getD i 0).toNat = 59) (h2 : ¬ zca (s.getD i 0) = true) (h3 : zf7 (s.drop i) = .ok (kd, t, m)) : zjI s (i + m) (l ++ [⟨kd, t, (i : Int)⟩]) := by
  have hm := zgH (by rw [List.length_drop]; omega) h3
  rw [List.length_drop] at hm
  refine ⟨by omega, by rw [List.length_append, List.length_singleton]; have := h.2.1; omega, ?_⟩
  rw [h.2.2, zxx hi h1 h2 h3]
  unfold ztX
  by_cases hz : (zhb s (i + m)).2.1 = 0
  · rw [if_pos hz, if_pos rfl, if_pos hz, List.append_assoc]; rfl
  · rw [if_neg hz, if_neg hz, if_neg hz]
end Go.SK
namespace Go.SK
open Go Go.Proofs
open Go.RowKit
theorem zoN (s : Tx) (w : World) (hG : LxG.holds w) (hl : s.length ≤ 140737488355327) : Ret Tryz.prog 184 #[str s] w (fun v w' => v = zrV (zi8 s) ∧ St w NoM [] [] w') := by
 refine zav (args := [str s]) Tryz.func184 rfl rfl rfl ?_
 have hst : St w NoM [] [LxG] w := St.init_Ds (by simp only [List.forall_mem_cons]; exact ⟨hG, fun _ h => absurd h List.not_mem_nil⟩)
 have hidx0 : (s.getD ((0 : Int).toNat) 0).toNat = (s.getD 0 0).toNat := rfl
 have h48 : (zba ([48] ++ s.take ((3 : Int).toNat))).2 = (zba ([48] ++ s.take 3)).2 := rfl
 refine SR <| AC rfl <| AI rfl <| NL <| SQ <| zao <| SR <| MS rfl <| CN <| zbV rfl rfl <| AB rfl <| NL <| zab rfl (fun g1 => ?_) (fun g1 => ?_)
 ·refine zaf <| zam <| SR <| AC rfl <| AI rfl <| NL <| zai Tryz.func184 rfl (TP (v := .int .u8 _) rfl) (TP (v := .int .i64 _) rfl) ?_
  subst g1
  exact ⟨rfl, hst.pure⟩
 have hpos : 0 < s.length := by rcases Nat.eq_zero_or_pos s.length with h0 | h0; exact absurd (List.length_eq_zero_iff.1 h0) g1; exact h0
 refine SQ <| SR <| MS rfl <| CN <| zaH ty9 rfl rfl Om Om <| CN <| zak rfl rfl <| AB rfl <| NL <| zab rfl (fun g2 => ?_) (fun g2 => ?_)
 ·refine zaf <| zax (Vb (Dt g2)) <| SR <| MS rfl <| CN <| zaH ty9 rfl rfl Om Om <| AC rfl <| AI rfl <| NL <| zai Tryz.func184 rfl (TP (v := .int .u8 _) rfl) (TP (v := .int .i64 _) rfl) ?_
  rw [zq4 (by omega) (by omega)]
  exact ⟨rfl, hst.pure⟩
 refine RG <| MS rfl <| CN <| zaH ty9 rfl rfl Om Om <| CN <| zak rfl rfl <| AB rfl <| NL <| zab rfl (fun g3 => ?_) (fun g3 => ?_)
 ·refine SR <| MS rfl <| CN <| zaH ty9 rfl rfl Om Om <| AC rfl <| AI rfl <| NL <| zai Tryz.func184 rfl (TP (v := .int .u8 _) rfl) (TP (v := .int .i64 _) rfl) ?_
  rw [zq4 (by omega) (by omega)]
  exact ⟨rfl, hst.pure⟩
 refine SR <| MS rfl <| CN <| zaH ty9 rfl rfl Om Om <| CN <| zak rfl rfl <| MB rfl <| zan (d := 22) rfl (fun g4 => ?_) (fun g4 => ?_)
 ·refine TK (t := 22) rfl (Vb (Dt g4)) <| zad (v := str _) rfl <| TK (t := 22) rfl (Vb (Dt g4)) <| zaL (rest := []) ty9 rfl <| TK (t := 22) rfl (Vb (Dt g4)) <| zbo rfl rfl <| CN <| zap (u := .bool _) (Vb (Dt g4)) rfl <| AB rfl <| NL <| zaj [(0, str _), (18, .bool _)] E2 fun f => zab rfl (fun g5 => ?_) (fun g5 => ?_)
  ·refine SR <| MS rfl <| CN <| zc2 ty9 rfl rfl (by omega) (by omega) <| CN <| zcD rfl rfl (by first | omega | (simp only [List.length_cons, List.length_nil, List.length_append]; omega) | (simp; omega)) <| CN <| Op1.call1 (v1 := str _) zpJ rfl rfl <| Ret.det (zdn _ _ (hst.hD _ Q0) (by simp only [List.length_append, List.length_take, List.length_singleton]; omega)) hst fun w hst => CN <| zad (v := .tuple #[.int .u32 _, .int .i64 _]) rfl <| CN <| Ex (.int .u32 _) rfl rfl <| CN <| Ex (.int .i64 _) rfl rfl <| AU rfl <| AI rfl <| NSR <| MI rfl ?_
   refine CN <| zak rfl rfl <| NL <| zab rfl (fun g6 => ?_) (fun g6 => ?_)
   ·have hq0 : (zba ([48] ++ s.take ((3 : Int).toNat))) = zba ([48] ++ s.take 3) := rfl
    have hn0 : (zba ([48] ++ s.take 3)).2 = 0 := by have := g6; omega
    have heb := (zt7 (r := s) Om Om hn0).2
    have heb2 : (zba ([48] ++ s.take ((3 : Int).toNat))).1 = (zba ([48] ++ s.take 3)).1 := rfl
    refine SR <| MU rfl ?_
    first | refine CN (zaY zbt ty5 rfl Wu8 ?_) | refine CN (za8 zbt ty5 rfl ?_)
    refine AC rfl <| AI rfl <| NL <| zai Tryz.func184 rfl (TP (v := .int .u8 _) rfl) (TP (v := .int .i64 _) rfl) ?_
    have he := zt7 (r := s) Om Om hn0
    rw [he.1]
    exact ⟨zrU he.2, hst.pure⟩
   have hq0 : (zba ([48] ++ s.take ((3 : Int).toNat))) = zba ([48] ++ s.take 3) := rfl
   refine zaf <| zam <| SR <| AC rfl <| AI rfl <| NL <| zai Tryz.func184 rfl (TP (v := .int .u8 _) rfl) (TP (v := .int .i64 _) rfl) ?_
   rw [zt6 (r := s) (by omega) (by omega) (by omega)]
   exact ⟨rfl, hst.pure⟩
  refine zaf <| zam <| SR <| AC rfl <| AI rfl <| NL <| zai Tryz.func184 rfl (TP (v := .int .u8 _) rfl) (TP (v := .int .i64 _) rfl) ?_
  rw [zw9 (r := s) (by omega) (by omega) (by omega)]
  exact ⟨rfl, hst.pure⟩
 refine OM (t := 22) rfl (Vb (Df g4)) rfl <| OM (t := 22) rfl (Vb (Df g4)) rfl <| OM (t := 22) rfl (Vb (Df g4)) rfl <| CN <| zaq (u := .bool _) (Vb (Df g4)) rfl <| AB rfl <| NL <| zaj [(0, str _), (18, .bool _)] E2 fun f => zat (Vb (rfl : false = _)) <| zaf <| zam <| SR <| AC rfl <| AI rfl <| NL ?_
 refine zai Tryz.func184 rfl (TP (v := .int .u8 _) rfl) (TP (v := .int .i64 _) rfl) ?_
 rw [zw9 (r := s) (by omega) (by omega) (by omega)]
 exact ⟨rfl, hst.pure⟩
end Go.SK
namespace Go.SK
open Go Go.Proofs
theorem ent184 : zaN Tryz.prog 184 := ⟨Tryz.f184, _, Tryz.func184, Kr, rfl⟩
end Go.SK
namespace Go.SK
open Go Go.Proofs
open Go.RowKit
theorem zqa (s : Tx) (h0 : 0 < s.length) (w : World) (hG : LxG.holds w) (hl : s.length ≤ 1099511627776) : Ret Tryz.prog 141 #[str s] w (fun v w' => v = .tuple #[str (zrR (zgR s 1)).1, .int .i64 ((zrR (zgR s 1)).2 : Int)] ∧ St w NoM [] [] w') := by
 refine zav (args := [str s]) Tryz.func141 rfl rfl rfl ?_
 have hst : St w NoM [] [LxG] w := St.init_Ds (by simp only [List.forall_mem_cons]; exact ⟨hG, fun _ h => absurd h List.not_mem_nil⟩)
 refine SR <| AS rfl <| AI rfl <| NL <| zjW <| SR <| AL rfl <| NL <| SQ ?_
 replace hst := hst.pushNil 5 1
 refine RG <| AI rfl <| NL <| SQ <| zhQ <| zaU [(0, str _)] ⟨rfl, trivial⟩ (fun (qq : Nat × Tx × Option Addr × Nat) => [(4, .slice qq.2.2.1 qq.2.1.length qq.2.2.2), (5, .int .i64 (qq.1 : Int))]) (fun (qq : Nat × Tx × Option Addr × Nat) => [Res.sl qq.2.2.1 qq.2.1.length qq.2.2.2 5 1 (qq.2.1.flatMap byC)]) (fun (qq : Nat × Tx × Option Addr × Nat) => zvL s 1 qq.1 qq.2.1) (fun (qq : Nat × Tx × Option Addr × Nat) => s.length - qq.1) ((1, [], none, 0)) hst (zlp Om) E2 ?_
 intro ⟨i, b, aq, cq⟩ f w hst hJ ih1
 replace hst : St _ _ ([Res.sl aq b.length cq 5 1 (b.flatMap byC)] ++ []) _ _ := hst
 replace hJ : zvL s 1 i b := hJ
 refine za2 (sl := [(4, .slice aq b.length cq), (5, .int .i64 (i : Int))]) E2 ?_
 have hidx : (s.getD ((i : Int).toNat) 0).toNat = (s.getD i 0).toNat := rfl
 have hj2 := hJ.2.1
 have hj3 := hJ.2.2.1
 have hj1 := hJ.1
 refine SQ <| SR <| MI rfl <| MS rfl <| CN <| zaL (rest := []) ty9 rfl <| CN <| zbo rfl rfl <| NL <| zab rfl (fun g2 => ?_) (fun g2 => ?_)
 ·refine SR <| AS rfl <| AI rfl <| NL <| zai Tryz.func141 rfl (TP (v := str _) rfl) (TP (v := .int .i64 _) rfl) ?_
  rw [zfn hJ (ztt (by omega))]
  exact ⟨rfl, hst.pure⟩
 refine zaf <| SQ <| SR <| MS rfl <| MI rfl <| CN <| zaH ty9 rfl rfl Om Om <| AC rfl <| NL <| zao <| SR <| MC rfl <| CN <| zak rfl rfl <| AB rfl ?_
 refine NL <| zab rfl (fun g3 => ?_) (fun g3 => ?_)
 ·refine SR <| ML rfl <| CN <| zc7 (l := b) zcr ty5 ty9 rfl rfl (Res.rs_of_sl (hst.hL _ Q0)) rfl <| MI rfl <| CN <| zas rfl rfl rfl zbe <| AS rfl <| AI rfl <| NL <| zai Tryz.func141 rfl (TP (v := str _) rfl) (TP (v := .int .i64 _) rfl) ?_
  rw [znB hJ (by omega) (by omega)]
  unfold zrR; dsimp only
  refine ⟨?_, hst.pure⟩
  congr 3; congr 1; have hj1 := hJ.1; congr 1; omega
 refine SR <| MC rfl <| CN <| zaS rfl rfl <| MB rfl <| zan (d := 30) rfl (fun g4 => ?_) (fun g4 => ?_)
 ·refine OM (t := 30) rfl (Vb (Dt g4)) rfl <| OM (t := 30) rfl (Vb (Dt g4)) rfl <| CN <| zap (u := .bool _) (Vb (Dt g4)) rfl <| AB rfl <| NL <| zax (Vb (rfl : true = _)) <| SR <| AS rfl <| AI rfl <| NL <| zai Tryz.func141 rfl (TP (v := str _) rfl) (TP (v := .int .i64 _) rfl) ?_
  rw [zfn hJ (zjj (by omega) (by omega) (zhX (by omega) (by omega)))]
  exact ⟨rfl, hst.pure⟩
 refine TK (t := 30) rfl (Vb (Df g4)) <| zad (v := .int .u8 _) rfl <| TK (t := 30) rfl (Vb (Df g4)) <| zbm rfl rfl <| CN <| zaq (u := .bool _) (Vb (Df g4)) rfl <| AB rfl <| NL <| zab rfl (fun g5 => ?_) (fun g5 => ?_)
 ·refine SR <| AS rfl <| AI rfl <| NL <| zai Tryz.func141 rfl (TP (v := str _) rfl) (TP (v := .int .i64 _) rfl) ?_
  rw [zfn hJ (zjj (by omega) (by omega) (zhX (by omega) (by omega)))]
  exact ⟨rfl, hst.pure⟩
 refine SR <| MC rfl <| CN <| zak rfl rfl <| AB rfl <| NL <| zaj [(0, str _), (4, .slice _ _ _), (5, .int .i64 _), (6, .int .u8 _), (34, .bool _)] E5 fun f => zab rfl (fun g6 => ?_) (fun g6 => ?_)
 ·refine SR <| MS rfl <| MI rfl <| CN <| zas rfl rfl rfl zbe <| CN <| zcv ty9 rfl rfl (by omega) (by omega) <| CN <| Op1.call1 (v1 := str _) ent184 rfl rfl <| Ret.det (zoN _ _ (hst.hD _ Q0) (by first | omega | (simp only [List.length_drop, List.length_take, List.length_append, List.length_cons, List.length_nil]; omega))) hst fun w hst => CN <| zad (v := .tuple #[.int .u8 _, .int .i64 _]) rfl <| CN <| Ex (.int .u8 _) rfl rfl <| CN <| Ex (.int .i64 _) rfl rfl <| AC rfl <| AI rfl <| NL <| SQ <| SQ ?_
  refine RG <| MI rfl <| CN <| zak rfl rfl <| NL <| zab rfl (fun g7 => ?_) (fun g7 => ?_)
  ·have hpn : zcs (s.drop i) = none := ztB Om Om (Int.ofNat_eq_zero.1 g7)
   refine SR <| AS rfl <| AI rfl <| NL <| zai Tryz.func141 rfl (TP (v := str _) rfl) (TP (v := .int .i64 _) rfl) ?_
   rw [zfn hJ (zjj (by omega) (by omega) hpn)]
   exact ⟨rfl, hst.pure⟩
  have hpt : zcs (s.drop i) = some (((zi8 (s.drop (i + 1))).getD (0, 0)).1, ((zi8 (s.drop (i + 1))).getD (0, 0)).2 + 1) := ztA (by omega) (by omega) (fun e => g7 (by rw [show ((zi8 (s.drop (((i : Int) + 1).toNat))).getD (0, 0)).2 = 0 from e]; rfl))
  have hpl := zfK Om hpt
  have hidE : ((zi8 (s.drop (((i : Int) + 1).toNat))).getD (0, 0)).2 = ((zi8 (s.drop (i + 1))).getD (0, 0)).2 := rfl
  refine zaf <| SR <| ML rfl <| MC rfl <| CN (zaE (z0 := [.int .u8 0]) hst zcr ty5 rfl rfl Kr (.c (v := .int .u8 _) rfl (h := .nil)) fun w b49 hst => ?_)
  refine CN (zaI (news := byC ((zi8 (s.drop (((i : Int) + 1).toNat))).getD (0, 0)).1) hst zcr ty5 rfl rfl .u1 rfl rfl rfl (zac (n := 1) (hst.objL Q0) _ rfl) rfl rfl Om fun w ao8 cp9 hst => ?_)
  replace hst := hst.drop .u1
  refine AL rfl <| NR <| MI rfl <| MI rfl <| CN <| zas rfl rfl rfl zbe <| AI rfl <| NL <| zam <| zaj [(0, str _), (4, .slice _ _ _), (5, .int .i64 _)] E3 fun f => SR <| MI rfl <| CN <| zas rfl rfl rfl zbe <| AI rfl ?_
  refine NL ?_
  have hI := zj1 hJ Om Om hpt
  refine zjg ?_ (SQ (zaf (ih1 ((i + (((zi8 (s.drop (i + 1))).getD (0, 0)).2 + 1), b ++ [((zi8 (s.drop (i + 1))).getD (0, 0)).1], ao8, cp9)) _ w ((by (try dsimp only); omega)) (by rw [List.length_append, List.flatMap_append]; exact hst) (hI) ⟨rfl, trivial⟩ ⟨(by simp only [List.length_append]; rfl), (Vi (by (try dsimp only); omega)), trivial⟩)))
  rfl
 refine RG <| ML rfl <| MC rfl <| CN (zaE (z0 := [.int .u8 0]) hst zcr ty5 rfl rfl Kr (.c (v := .int .u8 _) rfl (h := .nil)) fun w b18 hst => ?_)
 refine CN (zaI (news := byC (s.getD ((i : Int).toNat) 0)) hst zcr ty5 rfl rfl .u1 rfl rfl rfl (zac (n := 1) (hst.objL Q0) _ rfl) rfl rfl Om fun w ao10 cp11 hst => ?_)
 replace hst := hst.drop .u1
 refine AL rfl <| NL <| zam <| SR <| MI rfl <| CN <| zas rfl rfl rfl zbe <| AI rfl <| NL ?_
 have hpt : zcs (s.drop i) = some (s.getD i 0, 1) := zrT Om Om Om Om
 have hI := zj1 hJ Om Om hpt
 refine zjg ?_ (SQ (zaf (ih1 ((i + (1), b ++ [s.getD i 0], ao10, cp11)) _ w ((by (try dsimp only); omega)) (by rw [List.length_append, List.flatMap_append]; exact hst) (hI) ⟨rfl, trivial⟩ ⟨(by simp only [List.length_append]; rfl), (Vi (by (try dsimp only); omega)), trivial⟩)))
 rfl
end Go.SK
namespace Go.SK
open Go Go.Proofs
theorem ent141 : zaN Tryz.prog 141 := ⟨Tryz.f141, _, Tryz.func141, Kr, rfl⟩
theorem ent80 : zaN Tryz.prog 80 := ⟨Tryz.f80, _, Tryz.func80, Kr, rfl⟩
theorem zb4 : FldF Tryz.prog 72 2 2 := FldF.of (n := 0) Kr
end Go.SK
namespace Go.SK
open Go Go.Proofs
open Go.RowKit
theorem zsx (s : Tx) (h0 : 0 < s.length) (w : World) (hG : LxG.holds w) (hl : s.length ≤ 1099511627776) : Ret Tryz.prog 80 #[str s] w (fun v w' => (∃ kd t m, zf7 s = .ok (kd, t, m) ∧ v = .tuple #[.agg #[.int .u8 kd, str t, .int .i64 0], .int .i64 ((m : Nat) : Int), .int .i64 0] ∧ St w NoM [] [] w') ∨ (∃ e kd t m, zf7 s = .error e ∧ e ≠ 0 ∧ v = .tuple #[.agg #[.int .u8 kd, str t, .int .i64 0], .int .i64 m, .int .i64 e] ∧ St w NoM [] [] w')) := by
 refine zav (args := [str s]) Tryz.func80 rfl rfl rfl ?_
 have hst : St w NoM [] [LxG] w := St.init_Ds (by simp only [List.forall_mem_cons]; exact ⟨hG, fun _ h => absurd h List.not_mem_nil⟩)
 have hidx : (s.getD ((0 : Int).toNat) 0).toNat = (s.getD 0 0).toNat := rfl
 have hru := zjX (s.drop (0 + 1))
 rw [List.length_drop] at hru
 have hru1 := zjX (s.drop ((1 : Int).toNat))
 rw [List.length_drop] at hru1
 have h1t : (1 : Int).toNat = 1 := rfl
 have hqq : (zrR (zgR s 1)).2 = (zrR (zgR s (0 + 1))).2 := rfl
 have hrr : (zch (s.drop ((1 : Int).toNat))).length = (zch (s.drop (0 + 1))).length := rfl
 refine SR <| CN <| Op1.alloc hst zbd fun w b2 hst => AI rfl <| AI rfl <| NSR <| MS rfl <| CN <| zaH ty9 rfl rfl Om Om <| AC rfl <| NL <| SQ <| zao <| SQ ?_
 refine zao <| zao <| SQ <| zao <| SQ <| zao <| SQ <| zao <| SQ <| zao <| SQ <| SQ <| SR <| MC rfl ?_
 refine CN <| zak rfl rfl <| AB rfl <| NL <| zab rfl (fun g1 => ?_) (fun g1 => ?_)
 ·refine zaJ (id := 1) rfl <| SQ <| SR <| MS rfl <| CN <| Op1.call1 (v1 := str _) ent141 rfl rfl <| Ret.det (zqa _ (by omega) _ (hst.hD _ Q0) (by first | omega | (simp only [List.length_drop, List.length_take, List.length_append, List.length_cons, List.length_nil]; omega))) hst fun w hst => CN <| zad (v := .tuple #[str _, .int .i64 _]) rfl <| CN <| Ex (str _) rfl rfl <| CN <| Ex (.int .i64 _) rfl rfl <| AS rfl <| AI rfl <| NL <| SQ <| SQ <| RG ?_
  refine MI rfl <| CN <| zak rfl rfl <| NL <| zab rfl (fun g2 => ?_) (fun g2 => ?_)
  ·refine SR <| CN (zag zbd zda .nil ?_)
   refine CN (SO (v := zbO _ _ _) hst zbd rfl rfl .u0 fun w hst => ?_)
   refine AI rfl <| AI rfl <| NL <| zbf Tryz.func80 rfl (zal (vs := zeS _ _ _) rfl zbd rfl rfl (zac (n := 3) (hst.objL Q0) _ rfl)) (TP (v := .int .i64 _) rfl) (TP (v := .int .i64 _) rfl) ?_
   exact .inr ⟨_, _, _, _, znf (a := 0) Om Om, by decide, rfl, hst.pure⟩
  refine zaf <| SR <| MS rfl <| CN (zag zbd zda (.c (v := .int .u8 _) rfl (h := (.c (v := str _) rfl (h := .nil)))) ?_)
  refine MI rfl <| CN (SO (v := zbO _ _ _) hst zbd rfl rfl .u0 fun w hst => ?_)
  refine AI rfl <| AI rfl <| NL <| zbf Tryz.func80 rfl (zal (vs := zeS _ _ _) rfl zbd rfl rfl (zac (n := 3) (hst.objL Q0) _ rfl)) (TP (v := .int .i64 _) rfl) (TP (v := .int .i64 _) rfl) ?_
  exact .inl ⟨_, _, _, zjJ (a := 0) Om Om, rfl, hst.pure⟩
 refine zaf <| SQ <| SR <| MC rfl <| CN <| zak rfl rfl <| AB rfl <| NL <| zab rfl (fun g3 => ?_) (fun g3 => ?_)
 ·refine zaJ (id := 2) rfl <| SQ <| SR <| CN (zag zbd zda (.c (v := .int .u8 _) rfl (h := (.c (v := str _) rfl (h := .nil)))) ?_)
  refine CN (SO (v := zbO _ _ _) hst zbd rfl rfl .u0 fun w hst => ?_)
  refine AI rfl <| AI rfl <| NL <| zbf Tryz.func80 rfl (zal (vs := zeS _ _ _) rfl zbd rfl rfl (zac (n := 3) (hst.objL Q0) _ rfl)) (TP (v := .int .i64 _) rfl) (TP (v := .int .i64 _) rfl) ?_
  exact .inl ⟨_, _, _, zng (a := 0) Om, rfl, hst.pure⟩
 refine zaf <| SQ <| SR <| MC rfl <| CN <| zak rfl rfl <| AB rfl <| NL <| zab rfl (fun g4 => ?_) (fun g4 => ?_)
 ·refine zaJ (id := 3) rfl <| SQ <| SR <| MS rfl <| CN <| zcv ty9 rfl rfl (by omega) (by omega) <| CN <| Op1.call1 (v1 := str _) zsk rfl rfl <| Ret.det (zg4 _ _ (by first | omega | (simp only [List.length_drop]; omega))) hst fun w hst => AS rfl <| NL <| zaj [(2, Pp _ _), (8, str _)] E2 fun f => SQ <| SR <| MS rfl <| CN <| Op1.call1 (v1 := str _) zwi rfl rfl <| Ret.det (zg5 _ _ (hst.hD _ Q0) (by first | omega | (simp only [List.length_drop, List.length_take, List.length_append, List.length_cons, List.length_nil]; omega))) hst fun w hst => ?_
  refine CN <| zad (v := .tuple #[.int .u32 _, .bool _]) rfl <| CN <| Ex (.int .u32 _) rfl rfl <| CN <| Ex (.bool _) rfl rfl <| AU rfl <| AB rfl <| NSR <| MB rfl <| CN <| zaZ rfl <| NL <| zaA rfl (fun g5 => ?_) (fun g5 => ?_)
  ·refine SR <| CN (zag zbd zda .nil ?_)
   refine CN (SO (v := zbO _ _ _) hst zbd rfl rfl .u0 fun w hst => ?_)
   refine AI rfl <| AI rfl <| NL <| zbf Tryz.func80 rfl (zal (vs := zeS _ _ _) rfl zbd rfl rfl (zac (n := 3) (hst.objL Q0) _ rfl)) (TP (v := .int .i64 _) rfl) (TP (v := .int .i64 _) rfl) ?_
   exact .inr ⟨_, _, _, _, zqw (a := 0) Om (zrY g5), by decide, rfl, hst.pure⟩
  refine zaf <| SR <| MS rfl <| CN (zag zbd zda (.c (v := .int .u8 _) rfl (h := (.c (v := str _) rfl (h := .nil)))) ?_)
  refine MS rfl <| CN <| zaL (rest := []) ty9 rfl <| CN <| zas rfl rfl rfl zbe <| CN (SO (v := zbO _ _ _) hst zbd rfl rfl .u0 fun w hst => ?_)
  refine AI rfl <| AI rfl <| NL <| zbf Tryz.func80 rfl (zal (vs := zeS _ _ _) rfl zbd rfl rfl (zac (n := 3) (hst.objL Q0) _ rfl)) (TP (v := .int .i64 _) rfl) (TP (v := .int .i64 _) rfl) ?_
  exact .inl ⟨_, _, _, zl4 (a := 0) (by omega) (zrZ g5), by rw [show (1 : Int) + ((zch (s.drop ((1 : Int).toNat))).length : Int) = (((zch (s.drop (0 + 1))).length + 1 : Nat) : Int) by omega]; rfl, hst.pure⟩
 refine zaf <| SQ <| SR <| MC rfl <| CN <| Op1.call1 (v1 := .int .u8 _) zud rfl rfl <| Ret.det (zeL _ _) hst fun w hst => CN <| zak rfl rfl <| AB rfl <| NL <| zaj [(0, str _), (2, Pp _ _), (5, .int .u8 _), (26, .bool _)] E4 fun f => zab rfl (fun g6 => ?_) (fun g6 => ?_)
 ·refine zaJ (id := 4) rfl <| SQ <| SR <| MS rfl <| CN <| Op1.call1 (v1 := str _) zsk rfl rfl <| Ret.det (zg4 _ _ (by first | omega | (simp only [List.length_drop]; omega))) hst fun w hst => AS rfl <| NSR <| MS rfl <| CN (zag zbd zda (.c (v := .int .u8 _) rfl (h := (.c (v := str _) rfl (h := .nil)))) ?_)
  refine MS rfl <| CN <| zaL (rest := []) ty9 rfl <| CN (SO (v := zbO _ _ _) hst zbd rfl rfl .u0 fun w hst => ?_)
  refine AI rfl <| AI rfl <| NL <| zbf Tryz.func80 rfl (zal (vs := zeS _ _ _) rfl zbd rfl rfl (zac (n := 3) (hst.objL Q0) _ rfl)) (TP (v := .int .i64 _) rfl) (TP (v := .int .i64 _) rfl) ?_
  exact .inl ⟨_, _, _, zhI (a := 0) ((zjq _).1 g6), rfl, hst.pure⟩
 refine zaf <| SQ <| SR <| MC rfl <| CN <| zak rfl rfl <| AB rfl <| NL <| zab rfl (fun g7 => ?_) (fun g7 => ?_)
 ·refine zaJ (id := 5) rfl <| zam <| SQ <| SR <| MS rfl <| MS rfl <| CN <| zcv ty9 rfl rfl (by omega) (by omega) <| CN <| Op1.call1 (v1 := str _) zsk rfl rfl <| Ret.det (zg4 _ _ (by first | omega | (simp only [List.length_drop]; omega))) hst fun w hst => CN <| zaL (rest := []) ty9 rfl <| CN <| zas rfl rfl rfl zbe <| CN <| zc2 ty9 rfl rfl (by omega) (by omega) <| AS rfl <| NL <| SQ ?_
  refine RG <| MS rfl <| CN <| Op1.call1 (v1 := str _) zpJ rfl rfl <| Ret.det (zdn _ _ (hst.hD _ Q0) (by first | omega | (simp only [List.length_drop, List.length_take, List.length_append, List.length_cons, List.length_nil]; omega))) hst fun w hst => CN <| zad (v := .tuple #[.int .u32 _, .int .i64 _]) rfl <| CN <| Ex (.int .u32 _) rfl rfl <| CN <| Ex (.int .i64 _) rfl rfl <| AU rfl <| AI rfl <| NSR <| MS rfl <| CN (zag zbd zda (.c (v := .int .u8 _) rfl (h := (.c (v := str _) rfl (h := .nil)))) ?_)
  refine MS rfl <| CN <| zaL (rest := []) ty9 rfl <| MI rfl <| CN (SO (v := zbO _ _ _) hst zbd rfl rfl .u0 fun w hst => ?_)
  refine AI rfl <| AI rfl <| NL <| zbf Tryz.func80 rfl (zal (vs := zeS _ _ _) rfl zbd rfl rfl (zac (n := 3) (hst.objL Q0) _ rfl)) (TP (v := .int .i64 _) rfl) (TP (v := .int .i64 _) rfl) ?_
  have hta : (s.drop 0).take (1 + (zch (s.drop (0 + 1))).length) = s.take ((1 + ((zch (s.drop (0 + 1))).length : Int)).toNat) := by rw [List.drop_zero, show (1 + ((zch (s.drop (0 + 1))).length : Int)).toNat = 1 + (zch (s.drop (0 + 1))).length by omega]
  by_cases hz : (zba (s.take ((1 + ((zch (s.drop (0 + 1))).length : Int)).toNat))).2 = 0
  ·rw [show (zba (s.take ((1 + ((zch (s.drop ((1 : Int).toNat))).length : Int)).toNat))).2 = 0 from hz]
   exact .inl ⟨_, _, _, zgj (a := 0) (.inr Om) hta hz, rfl, hst.pure⟩
  ·have h62 := (zqQ (s.take ((1 + ((zch (s.drop (0 + 1))).length : Int)).toNat))).resolve_left hz
   rw [show (zba (s.take ((1 + ((zch (s.drop ((1 : Int).toNat))).length : Int)).toNat))).2 = 62 from h62]
   exact .inr ⟨_, _, _, _, zhJ (a := 0) (.inr Om) hta hz, by decide, rfl, hst.pure⟩
 refine zaf <| SR <| MC rfl <| CN <| Op1.call1 (v1 := .int .u8 _) zud rfl rfl <| Ret.det (zeL _ _) hst fun w hst => CN <| zak rfl rfl <| AB rfl <| NL <| zab rfl (fun g8 => ?_) (fun g8 => ?_)
 ·refine zaJ (id := 6) rfl <| SQ <| SR <| MS rfl <| MS rfl <| CN <| zcv ty9 rfl rfl (by omega) (by omega) <| CN <| Op1.call1 (v1 := str _) zsk rfl rfl <| Ret.det (zg4 _ _ (by first | omega | (simp only [List.length_drop]; omega))) hst fun w hst => CN <| zaL (rest := []) ty9 rfl <| CN <| zas rfl rfl rfl zbe <| CN <| zc2 ty9 rfl rfl (by omega) (by omega) <| AS rfl <| NL <| SQ <| RG ?_
  refine MS rfl <| CN <| Op1.call1 (v1 := str _) zpJ rfl rfl <| Ret.det (zdn _ _ (hst.hD _ Q0) (by first | omega | (simp only [List.length_drop, List.length_take, List.length_append, List.length_cons, List.length_nil]; omega))) hst fun w hst => CN <| zad (v := .tuple #[.int .u32 _, .int .i64 _]) rfl <| CN <| Ex (.int .u32 _) rfl rfl <| CN <| Ex (.int .i64 _) rfl rfl <| AU rfl <| AI rfl <| NL <| zaj [(2, Pp _ _), (12, str _), (14, .int .i64 _)] E3 fun f => SR <| MS rfl <| CN (zag zbd zda (.c (v := .int .u8 _) rfl (h := (.c (v := str _) rfl (h := .nil)))) ?_)
  refine MS rfl <| CN <| zaL (rest := []) ty9 rfl <| MI rfl <| CN (SO (v := zbO _ _ _) hst zbd rfl rfl .u0 fun w hst => ?_)
  refine AI rfl <| AI rfl <| NL <| zbf Tryz.func80 rfl (zal (vs := zeS _ _ _) rfl zbd rfl rfl (zac (n := 3) (hst.objL Q0) _ rfl)) (TP (v := .int .i64 _) rfl) (TP (v := .int .i64 _) rfl) ?_
  have hta : (s.drop 0).take (1 + (zch (s.drop (0 + 1))).length) = s.take ((1 + ((zch (s.drop (0 + 1))).length : Int)).toNat) := by rw [List.drop_zero, show (1 + ((zch (s.drop (0 + 1))).length : Int)).toNat = 1 + (zch (s.drop (0 + 1))).length by omega]
  by_cases hz : (zba (s.take ((1 + ((zch (s.drop (0 + 1))).length : Int)).toNat))).2 = 0
  ·rw [show (zba (s.take ((1 + ((zch (s.drop ((1 : Int).toNat))).length : Int)).toNat))).2 = 0 from hz]
   exact .inl ⟨_, _, _, zgj (a := 0) (.inl ((zms _).1 g8)) hta hz, rfl, hst.pure⟩
  ·have h62 := (zqQ (s.take ((1 + ((zch (s.drop (0 + 1))).length : Int)).toNat))).resolve_left hz
   rw [show (zba (s.take ((1 + ((zch (s.drop ((1 : Int).toNat))).length : Int)).toNat))).2 = 62 from h62]
   exact .inr ⟨_, _, _, _, zhJ (a := 0) (.inl ((zms _).1 g8)) hta hz, by decide, rfl, hst.pure⟩
 refine zaf <| zaJ (id := 0) rfl <| SR <| CN (zag zbd zda .nil ?_)
 refine CN (SO (v := zbO _ _ _) hst zbd rfl rfl .u0 fun w hst => ?_)
 refine AI rfl <| AI rfl <| NL <| zbf Tryz.func80 rfl (zal (vs := zeS _ _ _) rfl zbd rfl rfl (zac (n := 3) (hst.objL Q0) _ rfl)) (TP (v := .int .i64 _) rfl) (TP (v := .int .i64 _) rfl) ?_
 exact .inr ⟨_, _, _, _, zl5 (a := 0) (fun q => g6 ((zjq _).2 q)) Om (fun q => g8 ((zms _).2 q)) Om Om Om, by decide, rfl, hst.pure⟩
theorem zgB (s : Tx) (w : World) (hG : LxG.holds w) (hl : s.length ≤ 1099511627776) : Ret Tryz.prog 38 #[str s] w (fun v w' => ∃ ao cp, v = .tuple #[.slice ao (za7 s).1.length cp, .agg #[.int .i64 (za7 s).2.1, .int .i64 (za7 s).2.2]] ∧ St w NoM [Res.sl ao (za7 s).1.length cp 72 3 ((za7 s).1.flatMap zbW)] [] w') := by
 refine zav (args := [str s]) Tryz.func38 rfl rfl rfl ?_
 have hst : St w NoM [] [LxG] w := St.init_Ds (by simp only [List.forall_mem_cons]; exact ⟨hG, fun _ h => absurd h List.not_mem_nil⟩)
 refine SR <| AL rfl <| CN <| Op1.alloc hst za0 fun w b3 hst => NL <| zjW <| SR <| AL rfl <| NL <| SQ <| zhQ <| SQ <| SQ <| RG ?_
 refine AI rfl <| NL <| zao <| zaV ?_
 replace hst := hst.pushNil 72 3
 refine zaU [(0, str _), (3, Pp _ _)] E2 (fun (qq : Nat × List TokL × Option Addr × Nat) => [(4, .slice qq.2.2.1 qq.2.1.length qq.2.2.2), (5, .int .i64 (qq.1 : Int))]) (fun (qq : Nat × List TokL × Option Addr × Nat) => [Res.sl qq.2.2.1 qq.2.1.length qq.2.2.2 72 3 (qq.2.1.flatMap zbW)]) (fun (qq : Nat × List TokL × Option Addr × Nat) => zjI s qq.1 qq.2.1) (fun (qq : Nat × List TokL × Option Addr × Nat) => s.length - qq.1) ((0, [], none, 0)) hst (zjG s) E2 ?_
 intro ⟨i, l, aq, cq⟩ f w hst hJ ih1
 replace hst : St _ _ ([Res.sl aq l.length cq 72 3 (l.flatMap zbW)] ++ [_]) _ _ := hst
 replace hJ : zjI s i l := hJ
 refine za2 (sl := [(4, .slice aq l.length cq), (5, .int .i64 (i : Int))]) E2 ?_
 have hidx : (s.getD ((i : Int).toNat) 0).toNat = (s.getD i 0).toNat := rfl
 have hj2 := hJ.2.1
 have hj1 := hJ.1
 refine SQ <| SR <| MI rfl <| MS rfl <| CN <| zaL (rest := []) ty9 rfl <| CN <| zaS rfl rfl <| NL <| zab rfl (fun g2 => ?_) (fun g2 => ?_)
 ·refine zaf <| zao <| SQ <| zao <| SR <| MS rfl <| MI rfl <| CN <| zaH ty9 rfl rfl Om Om <| CN <| zak rfl rfl <| AB rfl <| NL <| zab rfl (fun g3 => ?_) (fun g3 => ?_)
  ·refine zaJ (id := 0) rfl <| SR <| ML rfl <| CN (zag za0 zcE .nil ?_)
   refine AL rfl <| CN (SO (v := gII _ _) hst za0 rfl rfl .u1 fun w hst => ?_)
   refine NL <| zai Tryz.func38 rfl (TP (v := .slice _ _ _) rfl) (zal (vs := lII _ _) rfl za0 rfl rfl (zac (n := 2) (hst.objL Q1) _ rfl)) ?_
   rw [zhG hJ (by omega)]
   replace hst := hst.pick (.cons .u0 .nil)
   exact ⟨aq, cq, rfl, hst.noD⟩
  refine SR <| MS rfl <| MI rfl <| CN <| zaH ty9 rfl rfl Om Om <| CN <| Op1.call1 (v1 := .int .u8 _) zud rfl rfl <| Ret.det (zeL _ _) hst fun w hst => CN <| zak rfl rfl <| AB rfl <| NL <| zab rfl (fun g4 => ?_) (fun g4 => ?_)
  ·refine SR <| MI rfl <| CN <| zas rfl rfl rfl zbe <| AI rfl <| NL <| zaJ (id := 1) rfl <| zay ?_
   have hI := zjH hJ Om Om ((ziF _).1 g4)
   exact ih1 ((i + 1, l, aq, cq)) _ w (Od) hst (hI) E2 ⟨rfl, (Vi Od), trivial⟩
  refine zaf <| zam <| SR <| MS rfl <| MI rfl <| CN <| zcv ty9 rfl rfl (by omega) (by omega) <| CN (Op1.call1 (v1 := str _) ent80 rfl rfl ((zsx (s.drop i) (by rw [List.length_drop]; omega) _ (hst.hD _ Q0) (by rw [List.length_drop]; omega)).mono fun v w hp => ?_))
  rcases hp with ⟨kd, t, m, htk, rfl, hp⟩ | ⟨e, kd, t, m, htk, hne, rfl, hp⟩
  ·replace hst := hst.keepc hp
   clear hp
   have hm := zgH (by rw [List.length_drop]; omega) htk
   rw [List.length_drop] at hm
   refine CN <| zad (v := .tuple #[zbO _ _ _, .int .i64 _, .int .i64 _]) rfl <| CN <| Ex (zbO _ _ _) rfl rfl <| CN <| Ex (.int .i64 _) rfl rfl <| CN <| Ex (.int .i64 _) rfl rfl <| CN <| Op1.alloc hst zbd fun w b6 hst => CN (SO (v := zbO _ _ _) hst zbd rfl rfl .u0 fun w hst => ?_)
   refine AI rfl <| AI rfl <| NL <| zaj [(0, str _), (3, Pp _ _), (4, .slice _ _ _), (5, .int .i64 _), (6, Pp _ _), (7, .int .i64 _), (8, .int .i64 _)] E7 fun f => SQ <| SR <| MI rfl <| CN <| zaW rfl rfl <| NL <| zab rfl (fun g5 => ?_) (fun g5 => ?_)
   ·exfalso
    exact g5 rfl
   refine zaf <| SR <| MI rfl <| CN <| zaa zb4 rfl <| CN (SO (v := .int .i64 _) hst ty3 rfl rfl .u0 fun w hst => ?_)
   refine NSR <| ML rfl <| CN <| zar (vs := zeS _ _ _) zbd rfl rfl rfl (zac (n := 3) (hst.objL Q0) _ rfl) <| CN (zaE (z0 := [.int .u8 0, str [], .int .i64 0]) hst zcB zbd rfl rfl Kr (.c (v := zbO _ _ _) rfl (h := .nil)) fun w b43 hst => ?_)
   refine CN (zaI (news := zbW ⟨kd, t, (i : Int)⟩) hst zcB zbd rfl rfl .u2 rfl rfl rfl (zac (n := 3) (hst.objL Q0) _ rfl) rfl rfl Om fun w ao6 cp7 hst => ?_)
   replace hst := hst.drop .u1
   refine AL rfl <| NR <| MI rfl <| MI rfl <| CN <| zas rfl rfl rfl zbe <| AI rfl <| NL <| zam <| zay ?_
   have hI := zqv hJ Om Om (fun q => g4 ((ziF _).2 q)) htk
   replace hst := hst.pick (.cons .u0 (.cons .u1 .nil))
   exact ih1 ((i + m, l ++ [⟨kd, t, (i : Int)⟩], ao6, cp7)) _ w ((by (try dsimp only); omega)) (by rw [List.length_append, List.flatMap_append]; exact hst) (hI) E2 ⟨(by simp only [List.length_append]; rfl), (Vi (by (try dsimp only); omega)), trivial⟩
  ·replace hst := hst.keepc hp
   clear hp
   refine CN <| zad (v := .tuple #[zbO _ _ _, .int .i64 _, .int .i64 _]) rfl <| CN <| Ex (zbO _ _ _) rfl rfl <| CN <| Ex (.int .i64 _) rfl rfl <| CN <| Ex (.int .i64 _) rfl rfl <| CN <| Op1.alloc hst zbd fun w b6 hst => CN (SO (v := zbO _ _ _) hst zbd rfl rfl .u0 fun w hst => ?_)
   refine AI rfl <| AI rfl <| NL <| zaj [(0, str _), (3, Pp _ _), (4, .slice _ _ _), (5, .int .i64 _), (6, Pp _ _), (7, .int .i64 _), (8, .int .i64 _)] E7 fun f => SQ <| SR <| MI rfl <| CN <| zaW rfl rfl <| NL <| zab rfl (fun g8 => ?_) (fun g8 => ?_)
   ·refine SR <| MI rfl <| MI rfl <| CN (zag za0 zcE (.c (v := .int .i64 _) rfl (h := (.c (v := .int .i64 _) rfl (h := .nil)))) ?_)
    refine AL rfl <| CN (SO (v := gII _ _) hst za0 rfl rfl .u2 fun w hst => ?_)
    refine NL <| zai Tryz.func38 rfl (TP (v := .slice _ _ _) rfl) (zal (vs := lII _ _) rfl za0 rfl rfl (zac (n := 2) (hst.objL Q2) _ rfl)) ?_
    rw [zne hJ (by omega) (by omega) (fun q => g4 ((ziF _).2 q)) htk]
    replace hst := hst.pushNil 72 3
    replace hst := hst.pick (.cons .u0 .nil)
    exact ⟨none, 0, rfl, hst.noD⟩
   exfalso
   exact g8 hne
 refine zaJ (id := 0) rfl <| SR <| ML rfl <| CN (zag za0 zcE .nil ?_)
 refine AL rfl <| CN (SO (v := gII _ _) hst za0 rfl rfl .u1 fun w hst => ?_)
 refine NL <| zai Tryz.func38 rfl (TP (v := .slice _ _ _) rfl) (zal (vs := lII _ _) rfl za0 rfl rfl (zac (n := 2) (hst.objL Q1) _ rfl)) ?_
 rw [zhG hJ (by omega)]
 replace hst := hst.pick (.cons .u0 .nil)
 exact ⟨aq, cq, rfl, hst.noD⟩
end Go.SK
namespace Go.SK
open Go Go.Proofs
theorem zwl : zaN Tryz.prog 38 := ⟨Tryz.f38, _, Tryz.func38, Kr, rfl⟩
end Go.SK
