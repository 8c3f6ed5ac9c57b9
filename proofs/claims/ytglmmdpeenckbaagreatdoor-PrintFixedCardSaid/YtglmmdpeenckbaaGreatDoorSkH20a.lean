/-
  Steps of functions, plain law, and walks of functions: what the laws rest on.
-/
import Derived.Test.YtglmmdpeenckbaaGreatDoorSkH0c
import Derived.Test.YtglmmdpeenckbaaGreatDoorSkH2a
import Derived.Test.YtglmmdpeenckbaaGreatDoorSkH3a
import Derived.Test.YtglmmdpeenckbaaGreatDoorSkH4a
import Derived.Test.YtglmmdpeenckbaaGreatDoorSkH6a
import Derived.Test.YtglmmdpeenckbaaGreatDoorSkH9a
import Derived.Test.YtglmmdpeenckbaaGreatDoorSkH12a
import Derived.Test.YtglmmdpeenckbaaGreatDoorSkH15a
import Derived.Test.YtglmmdpeenckbaaGreatDoorSkH16a
set_option linter.unusedVariables false
set_option linter.unusedSimpArgs false
set_option linter.unusedSectionVars false
namespace Go.SK
theorem zus {r : Tx} {j : Nat} (h : j < (zfE r).length) : ((zfE r).getD j 0).toNat ≠ 10 := by
  have : (zfE r).all (fun c => decide (c.toNat ≠ 10)) = true := by unfold zfE; simp [List.all_takeWhile]
  exact of_decide_eq_true (zmR this h)
theorem zku {r : Tx} (h : 0 < r.length) : (r = zfE r ∧ zhd r = [] ∧ ∀ j, j < r.length → (r.getD j 0).toNat ≠ 10) ∨ r = zfE r ++ 10 :: zhd r := by
  rcases zgr r with ⟨_, h2⟩ | ⟨k, h1, h2, h3, h4⟩
  · have := zmJ h2; exact .inl ⟨this.1.symm, this.2, h2⟩
  · have := zoq h1 h3 h4
    refine .inr ?_
    have hd := zi9 h1
    have e : r.getD k 0 = 10 := UInt8.toNat_inj.1 h4
    rw [this.1, this.2, ← e, ← hd, List.take_append_drop]
end Go.SK
namespace Go.SK
theorem znq {bd : Int} : ∀ (l : List InstL) (n k : Nat), (∀ i ∈ l, zbu bd i = 0) → n + (l.map fun i => zbT (zbq i.op) i.args).sum ≤ 1048576 → zcP bd n k l = (0, 0)
  | [], n, k, _, _ => rfl
  | i :: l, n, k, h, hr => by
    rw [List.map_cons, List.sum_cons] at hr
    unfold zcP
    rw [if_neg (by rw [h i (.head _)]; simp), if_neg (by omega)]
    exact znq l _ (k + 1) (fun j hj => h j (.tail _ hj)) Om
theorem PaG.shape {s : PaL} (g : PaG s) (h : s.words ≠ 0) : zbz s.bd s.insts = (0, 0) := by
  have hb := g.bd h
  have hw := g.words h
  have hl := g.le
  unfold zbz
  rw [if_neg (by omega)]
  exact znq _ _ _ (fun i hi => (g.ok i hi).1) Om
theorem znF : ∀ (ls : List Tx) (n : Nat) (s : PaL), PaG s → (zfM n ls s).2.1 = 0 → ∃ s', PaG s' ∧ s'.words ≠ 0 ∧ zfM n ls s = ((s'.gn, s'.bd, s'.insts), (0, 0))
  | [], n, s, g, h => by
    unfold zfM at h ⊢
    split at h
    · cases h
    · rename_i h0
      rw [if_neg h0]; exact ⟨s, g, h0, rfl⟩
  | x :: r, n, s, g, h => by
    rw [zfM] at h ⊢
    cases hp : zkL x s with
    | error e =>
      rw [hp] at h
      have h' : e = 0 := h
      subst h'
      exfalso
      unfold zkL at hp
      split at hp
      · split at hp
        · cases hp
        · split at hp
          · rename_i q; injection hp with hp; exact q hp
          · cases hp
      · split at hp
        · rename_i q; injection hp with hp; exact q hp
        · split at hp
          · cases hp
          · split at hp
            · injection hp with hp; cases hp
            · cases hp
    | ok t =>
      rw [hp] at h
      exact znF r (n + 1) t (g.step hp) h
theorem zrW {t : Tx} (h : (zbc t).2.1 = 0) : ∃ (gn bd : Int) (l : List InstL), zbc t = ((gn, bd, l), (0, 0)) ∧ zbz bd l = (0, 0) ∧ (0 ≤ gn ∧ gn < 4294967296) ∧ (1 ≤ bd ∧ bd ≤ 65536) ∧ ∀ i ∈ l, i.U32 := by
  unfold zbc at h ⊢
  split at h
  · cases h
  rename_i h1
  rw [if_neg h1]
  obtain ⟨s, g, h2, h3⟩ := znF _ _ _ PaG.start h
  exact ⟨s.gn, s.bd, s.insts, h3, g.shape h2, g.gn, g.bd h2, fun i hi => (g.ok i hi).2⟩
end Go.SK
namespace Go.SK
theorem zjo : ∀ {x : Tx}, x.all zwZ = true → nls x = 0
  | [], _ => rfl
  | c :: r, h => by
    rw [List.all_cons, Bool.and_eq_true] at h
    rw [nls, if_neg (of_decide_eq_true h.1), zjo h.2]
theorem zwC {r : Tx} (h : ∀ j, j < r.length → (r.getD j 0).toNat ≠ 10) : r.all zwZ = true := by
  rw [List.all_eq_true]
  intro c hc
  obtain ⟨j, hj, rfl⟩ := List.mem_iff_getElem.1 hc
  have := h j hj
  simp only [List.getD, List.getElem?_eq_getElem hj, Option.getD_some] at this
  exact Dt this
theorem zig (r : Tx) : (zfE r).all zwZ = true := zwC fun j hj => zus hj
theorem znM : ∀ (pre : List Tx) (x : Tx) (post : List Tx) (r : Tx), lnF r = pre ++ x :: post → ∃ e, e ≤ r.length ∧ (e = r.length ∨ (e < r.length ∧ (r.getD e 0).toNat = 10)) ∧ nls (r.take e) = pre.length ∧ ∀ more, lnF (r.take e ++ 10 :: more) = pre ++ x :: lnF more
  | [], x, post, r, h => by
    rcases Nat.eq_zero_or_pos r.length with h0 | h0
    · rw [zdG h0] at h; cases h
    · rw [zdR h0] at h
      injection h with h1 h2
      subst h1
      have hl : ∀ more, lnF (zfE r ++ 10 :: more) = zfE r :: lnF more := fun more => zgX (zig r)
      rcases zku h0 with ⟨ha, _, _⟩ | hs
      · refine ⟨r.length, Nat.le_refl _, .inl rfl, ?_, fun more => ?_⟩
        · rw [List.take_length, ha]; exact zjo (zig r)
        · rw [List.take_length]; conv => lhs; rw [ha]
          exact hl more
      · have ht : r.take (zfE r).length = zfE r := by
          conv => lhs; rw [hs]
          conv => lhs; lhs; rw [← hs]
          exact List.take_left
        have hlen : r.length = (zfE r).length + ((zhd r).length + 1) := by
          have := congrArg List.length hs
          rw [List.length_append, List.length_cons] at this; exact this
        refine ⟨(zfE r).length, by omega, .inr ⟨by omega, ?_⟩, ?_, fun more => ?_⟩
        · have : r.drop (zfE r).length = 10 :: zhd r := by
            conv => lhs; rw [hs]
            conv => lhs; lhs; rw [← hs]
            exact List.drop_left
          rw [zi9 (by omega)] at this
          injection this with e1 _
          rw [e1]; rfl
        · rw [ht]; exact zjo (zig r)
        · rw [ht]; exact hl more
  | y :: pre, x, post, r, h => by
    rcases Nat.eq_zero_or_pos r.length with h0 | h0
    · rw [zdG h0] at h; cases h
    · rw [zdR h0] at h
      injection h with h1 h2
      subst h1
      rcases zku h0 with ⟨_, hn, _⟩ | hs
      · rw [hn, zdG rfl] at h2; exact absurd h2 (by simp)
      · obtain ⟨e, he, hx, hnl, hm⟩ := znM pre x post (zhd r) h2
        have hlen : r.length = (zfE r).length + ((zhd r).length + 1) := by
          have := congrArg List.length hs
          rw [List.length_append, List.length_cons] at this; exact this
        have ht : r.take ((zfE r).length + (1 + e)) = zfE r ++ 10 :: (zhd r).take e := by
          conv => lhs; rw [hs]
          conv => lhs; lhs; rw [← hs]
          rw [List.take_length_add_append, Nat.add_comm 1 e, List.take_succ_cons]
        have hd : r.drop ((zfE r).length + 1) = zhd r := rfl
        refine ⟨(zfE r).length + (1 + e), by omega, ?_, ?_, fun more => ?_⟩
        · rcases hx with hx | ⟨hx, h10⟩
          · exact .inl Om
          · refine .inr ⟨by omega, ?_⟩
            rw [← hd, zdv] at h10
            rw [← Nat.add_assoc]; exact h10
        · rw [ht, zfp, nls, if_pos (by decide), zjo (zig r), hnl, List.length_cons]; omega
        · rw [ht, List.append_assoc, List.cons_append, zgX (zig r), hm more]; rfl
theorem zqO : ∀ (ls : List Tx) (n : Nat) (s : PaL), (zfM n ls s).2.1 ≠ 0 → zfM n ls s = zhD (zfM n ls s).2.1 (zfM n ls s).2.2 ∧ (((zfM n ls s).2.1 = 72 ∧ (zfM n ls s).2.2 = ((n + ls.length : Nat) : Int)) ∨ ∃ pre x post, ls = pre ++ x :: post ∧ (zfM n ls s).2.2 = ((n + pre.length + 1 : Nat) : Int) ∧ ∀ post', zfM n (pre ++ x :: post') s = zfM n ls s)
  | [], n, s, h => by
    unfold zfM at h ⊢
    split at h
    · rename_i h0; rw [if_pos h0]; exact ⟨rfl, .inl ⟨rfl, rfl⟩⟩
    · exact absurd rfl h
  | x :: r, n, s, h => by
    rw [zfM] at h ⊢
    cases hp : zkL x s with
    | error e => refine ⟨rfl, .inr ⟨[], x, r, rfl, ?_, fun post' => ?_⟩⟩
                 · rfl
                 · rw [List.nil_append, zfM, hp]
    | ok t =>
      rw [hp] at h
      have ih := zqO r (n + 1) t h
      refine ⟨ih.1, ?_⟩
      rcases ih.2 with ⟨h1, h2⟩ | ⟨pre, y, post, h1, h2, h3⟩
      · exact .inl ⟨h1, by dsimp only; rw [h2, List.length_cons]; congr 1; omega⟩
      · refine .inr ⟨x :: pre, y, post, by rw [h1]; rfl, by dsimp only; rw [h2, List.length_cons]; congr 1; omega, fun post' => ?_⟩
        rw [List.cons_append, zfM, hp]; exact h3 post'
theorem zgJ {t : Tx} (hl : ¬ t.length > 16777216) (h : (zbc t).2.1 ≠ 0) : zbc t = zhD (zbc t).2.1 (zbc t).2.2 ∧ (((zbc t).2.1 = 72 ∧ (zbc t).2.2 = ((lnF t).length : Int)) ∨
    (1 ≤ (zbc t).2.2 ∧ (zbc t).2.2 ≤ ((lnF t).length : Int) ∧ ∀ (ln : Int) (en : Nat) (more : Tx), endJ t (zbc t).2.2 t.length ln en → (t.take en ++ 10 :: more).length ≤ 16777216 → zbc (t.take en ++ 10 :: more) = zbc t)) := by
  have e : zbc t = zfM 0 (lnF t) ⟨0, 0, 0, []⟩ := if_neg hl
  rw [e] at h ⊢
  obtain ⟨h1, h2⟩ := zqO _ _ _ h
  refine ⟨h1, ?_⟩
  rcases h2 with ⟨h2, h3⟩ | ⟨pre, x, post, h2, h3, h4⟩
  · exact .inl ⟨h2, by rw [h3, Nat.zero_add]⟩
  · refine .inr ⟨by rw [h3]; omega, by rw [h3, h2, List.length_append, List.length_cons]; omega, fun ln en more hj hm => ?_⟩
    obtain ⟨e2, he, hx, hn, hs⟩ := znM pre x post t h2
    rw [h3] at hj
    have hen := hj.at he hx (by rw [hn]; omega)
    subst hen
    rw [zbc, if_neg (by omega), hs, h4]
end Go.SK
namespace Go.SK
theorem Small.ofSm {dm : List InstP} (h1 : dm.length ≤ 1048576) (h2 : ∀ x ∈ dm, x.L.Sm) : Small dm := ⟨by omega, fun i hi => (h2 i hi).2.2.1, fun i hi => (h2 i hi).2.2.2, fun i hi => (h2 i hi).1, fun i hi => (h2 i hi).2.1⟩
theorem zlr {t : Tx} (h : (zbc t).2.1 ≠ 0) : (zbc t).1 = (0, 0, []) := by
  by_cases hl : t.length > 16777216
  · rw [ze1 hl]; rfl
  · rw [(zgJ hl h).1]; rfl
theorem zj4 {t : Tx} (h : (zbc t).2.1 = 0) : zbz (zbc t).1.2.1 (zbc t).1.2.2 = (0, 0) ∧ (zbc t).2 = (0, 0) ∧ (0 ≤ (zbc t).1.1 ∧ (zbc t).1.1 < 4294967296) ∧ (1 ≤ (zbc t).1.2.1 ∧ (zbc t).1.2.1 ≤ 65536) ∧ ∀ i ∈ (zbc t).1.2.2, i.U32 := by
  obtain ⟨gn, bd, l, h1, h2, h3, h4, h5⟩ := zrW h
  rw [h1]; exact ⟨h2, rfl, h3, h4, h5⟩
end Go.SK
namespace Go.SK
open Go Go.Proofs
open Go.RowKit
theorem zfC (gn bd : Int) (n : Nat) (ao : Option Addr) (cp : Nat) (w : World) : Ret Tryz.prog 18 #[.agg #[.int .u32 gn, .int .u32 bd, .slice ao n cp]] w (fun v w' => v = .bool (decide (gn = 0 ∧ bd = 0 ∧ n = 0)) ∧ St w NoM [] [] w') := by
 refine zav (args := [.agg #[.int .u32 gn, .int .u32 bd, .slice ao n cp]]) Tryz.func18 rfl rfl rfl ?_
 have hst := St.init w
 refine SR <| CN <| zbi (v := zb2 _ _ _ _ _) hst rfl rfl fun w b1 hst => AB rfl <| NSR <| CN <| zaa zfO rfl <| CN <| zae (v := .int .u32 _) zbt rfl rfl (hst.cellL Q0 rfl) <| CN <| zak rfl rfl <| MB rfl <| zan (d := 6) rfl (fun g1 => ?_) (fun g1 => ?_)
 ·refine TK (t := 6) rfl (Vb (Dt g1)) <| zaa zcA rfl <| TK (t := 6) rfl (Vb (Dt g1)) <| zae (v := .int .u32 _) zbt rfl rfl (hst.cellL Q0 rfl) <| TK (t := 6) rfl (Vb (Dt g1)) <| zak rfl rfl <| CN <| zap (u := .bool _) (Vb (Dt g1)) rfl <| MB rfl <| zan (d := 11) rfl (fun g2 => ?_) (fun g2 => ?_)
  ·refine TK (t := 11) rfl (Vb (Dt g2)) <| zaa zbU rfl <| TK (t := 11) rfl (Vb (Dt g2)) <| zae (v := .slice _ _ _) zdo rfl rfl (hst.cellL Q0 rfl) <| TK (t := 11) rfl (Vb (Dt g2)) <| zaQ (rest := []) zdo rfl <| TK (t := 11) rfl (Vb (Dt g2)) <| zak rfl rfl <| CN <| zap (u := .bool _) (Vb (Dt g2)) rfl <| AB rfl <| NL <| zah Tryz.func18 rfl (TP (v := .bool _) rfl) ?_
   exact ⟨Vb (by first | (simp; done) | (simp; omega) | simp_all), hst.pure⟩
  refine OM (t := 11) rfl (Vb (Df g2)) rfl <| OM (t := 11) rfl (Vb (Df g2)) rfl <| OM (t := 11) rfl (Vb (Df g2)) rfl <| OM (t := 11) rfl (Vb (Df g2)) rfl <| CN <| zaq (u := .bool _) (Vb (Df g2)) rfl <| AB rfl <| NL <| zah Tryz.func18 rfl (TP (v := .bool _) rfl) ?_
  exact ⟨Vb (by first | (simp; done) | (simp; omega) | simp_all), hst.pure⟩
 refine OM (t := 6) rfl (Vb (Df g1)) rfl <| OM (t := 6) rfl (Vb (Df g1)) rfl <| OM (t := 6) rfl (Vb (Df g1)) rfl <| CN <| zaq (u := .bool _) (Vb (Df g1)) rfl <| MB rfl <| OM (t := 11) rfl (Vb (rfl : false = _)) rfl <| OM (t := 11) rfl (Vb (rfl : false = _)) rfl <| OM (t := 11) rfl (Vb (rfl : false = _)) rfl <| OM (t := 11) rfl (Vb (rfl : false = _)) rfl <| CN <| zaq (u := .bool _) (Vb (rfl : false = _)) rfl <| AB rfl <| NL <| zah Tryz.func18 rfl (TP (v := .bool _) rfl) ?_
 exact ⟨Vb (by first | (simp; done) | (simp; omega) | simp_all), hst.pure⟩
end Go.SK
namespace Go.SK
open Go Go.Proofs
theorem zuk : zaN Tryz.prog 18 := ⟨Tryz.f18, _, Tryz.func18, Kr, rfl⟩
end Go.SK
