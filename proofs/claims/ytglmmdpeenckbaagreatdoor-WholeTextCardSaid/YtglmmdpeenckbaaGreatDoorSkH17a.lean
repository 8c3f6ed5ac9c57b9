/-
  Steps of functions, plain law, and walks of functions: what the laws rest on.
-/
import Derived.Test.YtglmmdpeenckbaaGreatDoorSkH0c
import Derived.Test.YtglmmdpeenckbaaGreatDoorSkH1a
import Derived.Test.YtglmmdpeenckbaaGreatDoorSkH2a
import Derived.Test.YtglmmdpeenckbaaGreatDoorSkH3a
import Derived.Test.YtglmmdpeenckbaaGreatDoorSkH5a
import Derived.Test.YtglmmdpeenckbaaGreatDoorSkH6a
import Derived.Test.YtglmmdpeenckbaaGreatDoorSkH12a
import Derived.Test.YtglmmdpeenckbaaGreatDoorSkH13a
set_option linter.unusedVariables false
set_option linter.unusedSimpArgs false
set_option linter.unusedSectionVars false
namespace Go.SK
theorem ztu (s : Tx) : (zd0 s).all (fun c => decide (32 ≤ c.toNat ∧ c.toNat ≤ 126)) = true := by
  unfold zd0
  have h1 : ∀ c : UInt8, (zjl c).all (fun c => decide (32 ≤ c.toNat ∧ c.toNat ≤ 126)) = true := fun c => by
    have hx : ∀ n < 16, 32 ≤ (ziZ n).toNat ∧ (ziZ n).toNat ≤ 126 := by decide
    have hc := c.toNat_lt
    by_cases h1 : c.toNat < 32 ∨ 126 < c.toNat
    · rw [zgP h1]
      have := hx (c.toNat / 16) Om; have := hx (c.toNat % 16) Om
      simp; omega
    · by_cases h2 : c.toNat = 34 ∨ c.toNat = 92
      · rw [zgQ h1 h2]; simp; omega
      · rw [zjk h1 h2]; simp; omega
  rw [List.all_cons, List.all_append, List.all_flatMap]
  rw [List.all_eq_true.2 (fun c _ => h1 c)]; decide
end Go.SK
namespace Go.SK
theorem zqG {s : Tx} (h : zch s = s) : s.all zwZ = true := by
  have h1 : s.all zji = true := by
    rw [← h]; unfold zch; simp [List.all_takeWhile]
  rw [List.all_eq_true] at h1 ⊢
  intro c hc
  have h2 := h1 c hc
  simp only [zji, zfv, zdT, Bool.or_eq_true, decide_eq_true_eq] at h2
  exact Dt Om
theorem zwp {s : Tx} (h : s.all zdT = true) : s.all zwZ = true := by
  rw [List.all_eq_true] at h ⊢
  intro c hc
  have h2 := h c hc
  simp only [zdT, decide_eq_true_eq] at h2
  exact Dt Om
theorem zxs {t : TokL} {x : Tx} (h : wrT t = some x) : x.all zwZ = true := by
  unfold wrT at h
  split at h
  · split at h
    · rename_i h1; cases h; exact zqG h1.2.2
    · cases h
  split at h
  · split at h
    · rename_i h1
      cases h
      obtain ⟨n, hn⟩ := Option.isSome_iff_exists.1 h1
      rw [List.all_cons, zwp (zhW hn).2]; rfl
    · cases h
  split at h
  · split at h
    · rename_i h1
      cases h
      obtain ⟨h2, h3, h4⟩ := znH h1
      have h5 := zqG h4
      cases hx : t.text with
      | nil => rfl
      | cons c r =>
        rw [hx] at h3 h5
        have h6 : (c :: r).drop 1 = r := rfl
        rw [h6] at h5
        rw [List.all_cons, h5]
        have h7 : zdT c = true ∨ c.toNat = 45 := h3
        simp only [zdT, decide_eq_true_eq] at h7
        simp only [Bool.and_true, decide_eq_true_eq]
        omega
    · cases h
  split at h
  · cases h
    have h1 := ztu t.text
    rw [List.all_eq_true] at h1 ⊢
    intro c hc
    have h2 := of_decide_eq_true (h1 c hc)
    exact Dt Om
  split at h
  · split at h
    · cases h; rfl
    · cases h
  · cases h
theorem zs4 {p : UInt8 → Bool} (hp : ∀ t x, wrT t = some x → x.all p = true) : ∀ (l : List TokL) (o : List Tx), wrL l = some o → ∀ x ∈ o, x.all p = true
  | [], o, h, x, hx => by cases h; cases hx
  | t :: r, o, h, x, hx => by
    unfold wrL at h
    cases ht : wrT t with
    | none => rw [ht] at h; cases h
    | some a =>
      cases hr : wrL r with
      | none => rw [ht, hr] at h; cases h
      | some b =>
        rw [ht, hr] at h
        cases h
        rcases List.mem_cons.1 hx with rfl | hx
        · exact hp _ _ ht
        · exact zs4 hp r b hr x hx
theorem zv0 {p : UInt8 → Bool} (h32 : p 32 = true) : ∀ o : List Tx, (∀ x ∈ o, x.all p = true) → (Lib.join o [32]).all p = true
  | [], _ => by rw [Lib.join_nil]; rfl
  | x :: r, h => by
    rw [Lib.join_cons, List.all_append, h x (.head _), Bool.true_and, List.all_eq_true]
    intro c hc
    unfold Lib.joinTail at hc
    obtain ⟨y, hy, hcy⟩ := List.mem_flatten.1 hc
    obtain ⟨z, hz, rfl⟩ := List.mem_map.1 hy
    rcases List.mem_append.1 hcy with h1 | h1
    · obtain rfl := List.mem_singleton.1 h1; exact h32
    · exact List.all_eq_true.1 (h z (.tail _ hz)) c h1
theorem zh2 {l : List TokL} {o : List Tx} (h : wrL l = some o) : (Lib.join o [32]).all zwZ = true := zv0 De o (zs4 (fun t x => zxs) l o h)
section
variable {gn bd : Int}
theorem zmG {n : Int} (h0 : 0 ≤ n) (h1 : n < 4294967296) : zba (zd7 n) = (n, 0) := by
  have hp := zfo (zfA (u := n.toNat) Om)
  rw [show ((n.toNat : Nat) : Int) = n by omega] at hp; exact hp
theorem zn3 (hg : 0 ≤ gn ∧ gn < 4294967296) (hb : 1 ≤ bd ∧ bd ≤ 65536) : ∃ o, wrL (ziH gn bd) = some o ∧ wrS (ziH gn bd) = Lib.join o [32] ∧ zcf (Lib.join o [32]) = ((gn, bd), (0, 0)) ∧ (za7 (Lib.join o [32])).1.length = 3 := by
  have ho : wrL (ziH gn bd) = some [modW, zd7 gn, zd7 bd] := zbs (zgg De) (zbs (zhf hg.1 hg.2 0) (zbs (zhf Om Om 0) rfl))
  refine ⟨_, ho, (zdX (zk9 ho)).1, ?_, ?_⟩
  · have hkt := zqI _ _ 0 ho
    unfold zcf
    rw [zfz ho, if_neg (by simp)]
    obtain ⟨t0, l, hl, k0, x0, hkt⟩ := zfb (k := 1) (x := modW) (z := _) hkt
    obtain ⟨t1, l, rfl, k1, x1, hkt⟩ := zfb (k := 3) (x := zd7 gn) (z := _) hkt
    obtain ⟨t2, l, rfl, k2, x2, hkt⟩ := zfb (k := 3) (x := zd7 bd) (z := _) hkt
    cases l with
    | cons t r => cases hkt
    | nil =>
      dsimp only
      rw [hl]
      have e0 : ([t0, t1, t2].getD 0 zaR) = t0 := rfl
      have e1 : ([t0, t1, t2].getD 1 zaR) = t1 := rfl
      have e2 : ([t0, t1, t2].getD 2 zaR) = t2 := rfl
      rw [zkg (by rw [e0]; exact k0) (by rw [e0]; exact x0) (by simp), e1, e2, k1, k2, x1, x2, zmG hg.1 hg.2, zmG (n := bd) (by omega) (by omega), if_neg (by simp), if_neg (by simp), if_neg (by simp), if_neg (by simp), if_neg (by simp), if_neg (by simp; omega), if_neg (by simp)]
  · rw [zfz ho]; exact (zfm _ _ 0 ho).1
theorem znE : ∀ (l : List InstL) (n w k : Nat) (m : List InstL), 0 < w → (zcP bd w k l).1 = 0 → (∀ i ∈ l, i.U32) → zfM n (lnF (zc8 bd l)) ⟨gn, bd, w, m⟩ = ((gn, bd, m ++ l), (0, 0))
  | [], n, w, k, m, hw, _, _ => by
    rw [show zc8 bd [] = [] from rfl, zdG (r := ([] : Tx)) rfl, zfM, if_neg (by dsimp only; omega), List.append_nil]
  | i :: l, n, w, k, m, hw, hs, hu => by
    unfold zcP at hs
    split at hs
    · rename_i h; exact absurd hs h
    rename_i hf
    split at hs
    · cases hs
    rename_i hr
    obtain ⟨o, ho, hp, hl⟩ := zfu (Nn hf) (hu i (.head _))
    have e : zc8 bd (i :: l) = Lib.join o [32] ++ 10 :: zc8 bd l := by
      unfold zc8; rw [List.flatMap_cons, hp]; simp
    rw [e, zgX (zh2 ho), zfM]
    have hst : zkL (Lib.join o [32]) ⟨gn, bd, w, m⟩ = .ok ⟨gn, bd, w + zbT (zbq i.op) i.args, m ++ [i]⟩ := by
      unfold zkL
      dsimp only
      rw [if_neg (by omega), hl]
      dsimp only
      rw [if_neg (by simp), if_neg (by simp), if_neg hr]
    rw [hst]
    dsimp only
    rw [znE l (n + 1) _ (k + 1) _ (by omega) hs (fun j hj => hu j (.tail _ hj)), List.append_assoc]; rfl
theorem zth {l : List InstL} (hs : (zbz bd l).1 = 0) (hg : 0 ≤ gn ∧ gn < 4294967296) (hu : ∀ i ∈ l, i.U32) (hb0 : 0 ≤ bd) (ht : (zc9 gn bd l).1.length ≤ 16777216) : (zc9 gn bd l).2 = (0, 0) ∧ zbc (zc9 gn bd l).1 = ((gn, bd, l), (0, 0)) := by
  have hbd : 1 ≤ bd ∧ bd ≤ 65536 := by
    unfold zbz at hs
    split at hs
    · cases hs
    · omega
  have hsg : (zcP bd 5 0 l).1 = 0 := by
    unfold zbz at hs
    split at hs
    · cases hs
    · exact hs
  obtain ⟨o, ho, hw, hh, hn⟩ := zn3 hg hbd
  have e : zc9 gn bd l = (Lib.join o [32] ++ 10 :: zc8 bd l, (0, 0)) := by
    unfold zc9; rw [if_neg (by rw [hs]; simp), hw]
  rw [e] at ht ⊢
  refine ⟨rfl, ?_⟩
  unfold zbc
  rw [if_neg (by dsimp only at ht ⊢; omega)]
  dsimp only
  rw [zgX (zh2 ho), zfM]
  have hst : zkL (Lib.join o [32]) ⟨0, 0, 0, []⟩ = .ok ⟨gn, bd, 5, []⟩ := by
    unfold zkL
    rw [if_pos rfl, if_neg (by rw [hn]; simp), hh, if_neg (by simp)]
  rw [hst]
  exact znE l 1 5 0 [] Om hsg hu
end
end Go.SK
namespace Go.SK
theorem zni {gn bd : Int} {l : List InstL} (hs : (zbz bd l).1 = 0) (hg : 0 ≤ gn ∧ gn < 4294967296) (hu : ∀ i ∈ l, i.U32) (hb0 : 0 ≤ bd) : (zc9 gn bd l).2 = (0, 0) ∧ (zc9 gn bd l).1.length ≤ 16777216 ∧ zbc (zc9 gn bd l).1 = ((gn, bd, l), (0, 0)) := by
  have hl := zqC hs hg hu hb0
  have hr := zth hs hg hu hb0 hl
  exact ⟨hr.1, hl, hr.2⟩
end Go.SK
