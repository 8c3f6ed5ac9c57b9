/-
  Steps of functions, plain law, and walks of functions: what the laws rest on.
-/
import Derived.Test.YtglmmdpeenckbaaGreatDoorSkH0a
set_option linter.unusedVariables false
set_option linter.unusedSimpArgs false
set_option linter.unusedSectionVars false
namespace Go.SK
abbrev u8C (x : Int) : List Value := [.int .u8 x]
theorem zta (x : Int) : (u8C x).length = 1 := rfl
abbrev zx4 (f : FormL) (i : Nat) (k : Int) : Prop := k = 0 ∨ zbZ (zaP f i) ≠ k
def zjw (f : FormL) : Nat → List Int → Option Nat
  | _, [] => none
  | i, k :: ks => if zx4 f i k then some i else zjw f (i + 1) ks
theorem ziO {f : FormL} {ks : List Int} {i : Nat} {R : Option Nat} (h : zjw f i (ks.drop i) = R) (hi : i < ks.length) (hb : zx4 f i (ks.getD i 0)) : R = some i := by
  rw [List.drop_eq_getElem_cons hi, zjw] at h
  simp only [List.getD, List.getElem?_eq_getElem hi, Option.getD_some] at hb
  rw [if_pos hb] at h; exact h.symm
theorem zmL {f : FormL} {ks : List Int} {i : Nat} {R : Option Nat} (h : zjw f i (ks.drop i) = R) (hi : i < ks.length) (hb : ¬ zx4 f i (ks.getD i 0)) : zjw f (i + 1) (ks.drop (i + 1)) = R := by
  rw [List.drop_eq_getElem_cons hi, zjw] at h
  simp only [List.getD, List.getElem?_eq_getElem hi, Option.getD_some] at hb
  rwa [if_neg hb] at h
theorem zkw {f : FormL} {ks : List Int} {i : Nat} {R : Option Nat} (h : zjw f i (ks.drop i) = R) (hi : ks.length ≤ i) : R = none := by
  rw [List.drop_eq_nil_of_le hi, zjw] at h; exact h.symm
abbrev zlt (f : FormL) (n : Nat) : Prop := (n : Int) - f.fixed.length < 0 ∨ (f.rest ≠ [] ∧ ((n : Int) - f.fixed.length) % f.rest.length ≠ 0)
def zmB (f : FormL) (ks : List Int) : Int × Bool := match zjw f 0 ks with
  | some i => ((i : Int), false)
  | none => if zlt f ks.length then ((ks.length : Int), false) else (0, true)
def zej (op : Int) (ks : List Int) : Int × Bool := if (zbv op).isSome then zmB (zbq op) ks else (0, false)
abbrev zh8 (p : Int × Bool) : Value := .tuple #[.int .i64 p.1, .bool p.2]
theorem zt2 {op : Int} {ks : List Int} {ob : Bool} (h : (zbv op).isSome = ob) (ho : ob = false) : zej op ks = (0, false) := by
  unfold zej; rw [h, ho]; rfl
theorem zde {op : Int} {ks : List Int} {fm : FormL} {ob : Bool} (h : (zbv op).isSome = ob) (hf : zbq op = fm) (ho : ob = true) : zej op ks = zmB fm ks := by
  unfold zej; rw [h, ho, hf]; rfl
theorem zib {f : FormL} {ks : List Int} {i : Nat} (h : zjw f 0 ks = some i) : zmB f ks = ((i : Int), false) := by unfold zmB; rw [h]
theorem zia {f : FormL} {ks : List Int} (h : zjw f 0 ks = none) (ho : zlt f ks.length) : zmB f ks = ((ks.length : Int), false) := by unfold zmB; rw [h]; simp only; rw [if_pos ho]
theorem zh9 {f : FormL} {ks : List Int} (h : zjw f 0 ks = none) (ho : ¬ zlt f ks.length) : zmB f ks = (0, true) := by unfold zmB; rw [h]; simp only; rw [if_neg ho]
theorem zmq : refT.all (fun f => (f.fixed ++ f.rest).all fun c => decide (zbZ c.toNat ≠ 0)) = true := by decide +kernel
theorem zgo (op i : Int) (h : zaP (zbq op) i ≠ 0) : zbZ (zaP (zbq op) i) ≠ 0 := by
  cases hr : zbv op with
  | none =>
    have : zbq op = zeroF := by rw [zbq, hr]; rfl
    rw [this, zhr] at h; exact absurd rfl h
  | some f =>
    have e : zbq op = f := by rw [zbq, hr]; rfl
    rw [e] at h ⊢
    have hall := List.all_eq_true.1 zmq f (zeZ hr).1
    rw [List.all_eq_true] at hall
    have key : ∀ c ∈ f.fixed ++ f.rest, zbZ (c.toNat : Int) ≠ 0 := fun c hc => by simpa only [decide_eq_true_eq] using hall c hc
    unfold zaP at h ⊢
    split at h
    · exact absurd rfl h
    · rename_i h0
      rw [if_neg h0]
      split at h
      · rename_i h1
        rw [if_pos h1]
        have hi : i.toNat < f.fixed.length := by omega
        simp only [List.getD, List.getElem?_eq_getElem hi, Option.getD_some]
        exact key _ (List.mem_append_left _ (List.getElem_mem hi))
      · rename_i h1
        rw [if_neg h1]
        unfold zgn at h ⊢
        split at h
        · exact absurd rfl h
        · rename_i h2
          rw [if_neg h2]
          have hr2 : 0 < f.rest.length := List.length_pos_iff.2 (fun e => h2 (.inr (.inl e)))
          have hm := Int.emod_lt_of_pos (i - (f.fixed.length : Int)) (show (0 : Int) < f.rest.length by omega)
          have hn := Int.emod_nonneg (i - (f.fixed.length : Int)) (show (f.rest.length : Int) ≠ 0 by omega)
          have hi : ((i - (f.fixed.length : Int)) % (f.rest.length : Int)).toNat < f.rest.length := by omega
          simp only [List.getD, List.getElem?_eq_getElem hi, Option.getD_some]
          exact key _ (List.mem_append_right _ (List.getElem_mem hi))
theorem zor {f : FormL} {i : Nat} : ∀ {ts : List Int}, (∀ j (hj : j < ts.length), ¬ zx4 f (i + j) ts[j]) → zjw f i ts = none
  | [], _ => rfl
  | k :: ts, h => by
    rw [zjw, if_neg (show ¬ zx4 f i k from h 0 (by simp))]
    exact zor (i := i + 1) fun j hj => by
      have := h (j + 1) (by simpa using hj)
      rw [show i + 1 + j = i + (j + 1) by omega]
      exact this
end Go.SK
namespace Go.SK
open Go.RowKit Go.ChangeShapes Go.WideShapes Go.ChangeAt
def idE (n bound : Int) : Int := if n = 0 ∨ n ≥ bound then 43 else 0
def zfT (c n : Int) : Int := if (namesL.find? (enN c n)).isSome = true then 0 else 31
def zit (c : Int) (ws : List Int) (bound : Int) : ArgP × Nat × Int :=
  if c = 0 ∨ ws.length = 0 then (zeroA, 0, 42)
  else if zbZ c = 3 then (⟨3, 0, (zmb ws).1⟩, (zmb ws).2.1.toNat, (zmb ws).2.2)
  else (⟨zbZ c, ws.getD 0 0, []⟩, 1, if zbZ c = 1 then idE (ws.getD 0 0) bound else if zbZ c = 4 then zfT c (ws.getD 0 0) else 0)
theorem zuE {c : Int} {ws : List Int} {b : Int} (h : c = 0 ∨ ws.length = 0) : zit c ws b = (zeroA, 0, 42) := if_pos h
theorem zuD {c : Int} {ws : List Int} {b : Int} (h : ¬ c = 0) (h2 : ¬ ws.length = 0) (hk : zbZ c = 3) : zit c ws b = (⟨3, 0, (zmb ws).1⟩, (zmb ws).2.1.toNat, (zmb ws).2.2) := by
  unfold zit; rw [if_neg (fun h3 => h3.elim h h2), if_pos hk]
theorem zwB {c : Int} {ws : List Int} {b : Int} (h : ¬ c = 0) (h2 : ¬ ws.length = 0) (hk : ¬ zbZ c = 3) : zit c ws b = (⟨zbZ c, ws.getD 0 0, []⟩, 1, if zbZ c = 1 then idE (ws.getD 0 0) b else if zbZ c = 4 then zfT c (ws.getD 0 0) else 0) := by
  unfold zit; rw [if_neg (fun h3 => h3.elim h h2), if_neg hk]
theorem zmO {c : Int} {ws : List Int} {b : Int} (h : (zit c ws b).2.2 = 0) : 1 ≤ (zit c ws b).2.1 ∧ (zit c ws b).2.1 ≤ ws.length ∧ c ≠ 0 ∧ (zit c ws b).1.kind = zbZ c := by
  by_cases h1 : c = 0 ∨ ws.length = 0
  · rw [zuE h1] at h; cases h
  · have h2 : ¬ c = 0 := fun e => h1 (.inl e)
    have h3 : ¬ ws.length = 0 := fun e => h1 (.inr e)
    by_cases hk : zbZ c = 3
    · rw [zuD h2 h3 hk] at h ⊢
      rcases zpk ws with ⟨e, he, h4⟩ | ⟨s, n, he, h4, h5, h6⟩
      · rw [he] at h; simp only at h; omega
      · rw [he]; simp only [Int.toNat_natCast]; exact ⟨h4, h5, h2, hk.symm⟩
    · rw [zwB h2 h3 hk] at h ⊢
      exact ⟨Nat.le_refl _, by (try dsimp only); omega, h2, rfl⟩
def zmM (fm : FormL) (bound : Int) : Nat → Nat → List Int → List ArgP × Int
  | 0, _, _ => ([], 0)
  | n + 1, k, ws => if ws.length = 0 ∧ fm.fixed.length ≤ k then ([], 0)
    else if (zit (zaP fm k) ws bound).2.2 ≠ 0 then ([], (zit (zaP fm k) ws bound).2.2)
    else ((zit (zaP fm k) ws bound).1 :: (zmM fm bound n (k + 1) (ws.drop (zit (zaP fm k) ws bound).2.1)).1, (zmM fm bound n (k + 1) (ws.drop (zit (zaP fm k) ws bound).2.1)).2)
theorem zlL {fm : FormL} {bound : Int} : ∀ n n' k ws, ws.length < n → ws.length < n' → zmM fm bound n k ws = zmM fm bound n' k ws
  | 0, _, _, _, h, _ => absurd h (Nat.not_lt_zero _)
  | _, 0, _, _, _, h => absurd h (Nat.not_lt_zero _)
  | n + 1, n' + 1, k, ws, h, h' => by
    rw [zmM, zmM]
    by_cases h1 : ws.length = 0 ∧ fm.fixed.length ≤ k
    · rw [if_pos h1, if_pos h1]
    · rw [if_neg h1, if_neg h1]
      by_cases h2 : (zit (zaP fm k) ws bound).2.2 ≠ 0
      · rw [if_pos h2, if_pos h2]
      · have h3 := zmO (Nn h2)
        rw [if_neg h2, if_neg h2, zlL n n' _ _ (by rw [List.length_drop]; omega) (by rw [List.length_drop]; omega)]
abbrev zk0 (fm : FormL) (bound : Int) (k : Nat) (ws : List Int) : List ArgP × Int := zmM fm bound (ws.length + 1) k ws
theorem zou {fm : FormL} {bound : Int} {k : Nat} {ws : List Int} (h : ws.length > 0 ∨ k < fm.fixed.length) (he : (zit (zaP fm k) ws bound).2.2 ≠ 0) : zk0 fm bound k ws = ([], (zit (zaP fm k) ws bound).2.2) := by
  unfold zk0; rw [zmM, if_neg (by omega), if_pos he]
theorem zsn {fm : FormL} {bound : Int} {k : Nat} {ws : List Int} {a : ArgP} {m : Nat} (h : ws.length > 0 ∨ k < fm.fixed.length) (he : zit (zaP fm k) ws bound = (a, m, 0)) : zk0 fm bound k ws = (a :: (zk0 fm bound (k + 1) (ws.drop m)).1, (zk0 fm bound (k + 1) (ws.drop m)).2) := by
  have h0 : (zit (zaP fm k) ws bound).2.2 = 0 := by rw [he]
  have h3 := zmO h0
  unfold zk0
  rw [zmM, if_neg (by omega), if_neg (fun e => e h0)]
  rw [he] at h3 ⊢
  dsimp only at h3 ⊢
  rw [zlL ws.length ((ws.drop m).length + 1) _ _ (by rw [List.length_drop]; omega) (by omega)]
theorem zsb {op : Int} {ags : List ArgP} (h : ∀ j, j < ags.length → zaP (zbq op) (j : Int) ≠ 0 ∧ (ags.getD j zeroA).kind = zbZ (zaP (zbq op) (j : Int))) : zjw (zbq op) 0 (ags.map ArgP.kind) = none := by
  refine zor fun j hj => ?_
  simp only [List.length_map] at hj
  have hh := h j hj
  have e : (ags.map ArgP.kind)[j]'(by simpa using hj) = (ags.getD j zeroA).kind := by simp [List.getD, hj]
  rw [e, hh.2, Nat.zero_add]
  intro hb
  rcases hb with hb | hb
  · exact zgo op j hh.1 hb
  · exact hb rfl
def zgh (op : Int) (ags : List ArgP) : Int := if (zej op (ags.map ArgP.kind)).2 = true then 0 else 42
theorem zs6 {op : Int} {ags : List ArgP} (hob : (zbv op).isSome = true) (h : zjw (zbq op) 0 (ags.map ArgP.kind) = none) : zgh op ags = if zlt (zbq op) ags.length then 42 else 0 := by
  unfold zgh
  rw [zde (fm := zbq op) hob rfl rfl]
  by_cases ho : zlt (zbq op) ags.length
  · rw [zia h (by rwa [List.length_map]), if_pos ho]; rfl
  · rw [zh9 h (by rwa [List.length_map]), if_neg ho]; rfl
def b2n (b : Bool) : Nat := if b = true then 1 else 0
def ze3 (fm : FormL) (l : List Int) (bound : Int) : Nat × Int :=
  if fm.ty = true ∧ l.length = 0 then (0, 40)
  else if fm.ty = true ∧ idE (l.getD 0 0) bound ≠ 0 then (0, 43)
  else if fm.res = true ∧ l.length = b2n fm.ty then (0, 41)
  else if fm.res = true ∧ idE (l.getD (b2n fm.ty) 0) bound ≠ 0 then (0, 43)
  else (b2n fm.ty + b2n fm.res, 0)
def zeroIL : InstL := ⟨0, 0, 0, []⟩
def zpN (a : ArgP) : List Int := if a.kind = 3 then zby a.s else [a.n]
def za1 (a : ArgP) : Nat := if a.kind = 3 then a.s.length / 4 + 1 else 1
def zbN (c : Int) (a : ArgP) (bound : Int) : Int :=
  if c = 0 ∨ a.kind ≠ zbZ c then 42
  else if (a.kind = 3 ∧ a.n ≠ 0) ∨ (a.kind ≠ 3 ∧ a.s ≠ []) then 42
  else if a.kind = 1 ∧ idE a.n bound ≠ 0 then 43
  else if a.kind = 4 ∧ zfT c a.n ≠ 0 then 31
  else if zbS a.s ≠ a.s.length then 13 else 0
def idH (must : Bool) (n bound e : Int) : Int := if must ≠ decide (n ≠ 0) then e else if must = true ∧ n ≥ bound then 43 else 0
def zb0 (fm : FormL) (bound : Int) : Nat → List ArgP → Int
  | _, [] => 0
  | k, a :: ags => if zbN (zaP fm k) a bound ≠ 0 then zbN (zaP fm k) a bound else zb0 fm bound (k + 1) ags
def zfN (fm : FormL) (ty res : Int) : List Int := (if fm.ty = true then [ty] else []) ++ (if fm.res = true then [res] else [])
def zbT (fm : FormL) (ags : List ArgP) : Nat := 1 + (b2n fm.ty + b2n fm.res) + (ags.map za1).sum
def zbu (bound : Int) (i : InstL) : Int :=
  if (zbv i.op).isSome = false then 30
  else if idH (zbq i.op).ty i.ty bound 40 ≠ 0 then idH (zbq i.op).ty i.ty bound 40
  else if idH (zbq i.op).res i.res bound 41 ≠ 0 then idH (zbq i.op).res i.res bound 41
  else if zb0 (zbq i.op) bound 0 i.args ≠ 0 then zb0 (zbq i.op) bound 0 i.args
  else if zlt (zbq i.op) i.args.length then 42
  else if zbT (zbq i.op) i.args > 65535 then 25 else 0
def zhg (fm : FormL) (i : InstL) : List Int := zfN fm i.ty i.res ++ i.args.flatMap zpN
def zis (bound : Int) (i : InstL) : RawL × Int := if zbu bound i ≠ 0 then ((0, []), zbu bound i) else ((i.op, zhg (zbq i.op) i), 0)
end Go.SK
namespace Go.SK
def zpE (fm : FormL) (bound : Int) (l : List Int) : List ArgP × Int :=
  if (ze3 fm l bound).2 ≠ 0 then ([], (ze3 fm l bound).2) else zk0 fm bound 0 (l.drop (b2n fm.ty + b2n fm.res))
section
variable {fm : FormL} {bound op : Int} {l : List Int}
theorem zlC (h : (ze3 fm l bound).2 ≠ 0) : zpE fm bound l = ([], (ze3 fm l bound).2) := if_pos h
theorem zsd (h : (ze3 fm l bound).2 = 0) : zpE fm bound l = zk0 fm bound 0 (l.drop (b2n fm.ty + b2n fm.res)) := if_neg (fun e => e h)
theorem zi7 {α : Type} {x y : α} : (if (0 : Int) ≠ 0 then x else y) = y := if_neg (fun h => h rfl)
def H1 (fm : FormL) (l : List Int) (bound : Int) (a : Nat) (ty e : Int) : Prop := a ≤ l.length ∧ (e = 0 → a = b2n fm.ty ∧ ty = (if fm.ty = true then l.getD 0 0 else 0) ∧ ¬ (fm.ty = true ∧ l.length = 0) ∧ ¬ (fm.ty = true ∧ idE (l.getD 0 0) bound ≠ 0)) ∧ (e ≠ 0 → (ze3 fm l bound).2 = e)
theorem H1.lacks (h : fm.ty = true) (hl : l.length = 0) : H1 fm l bound 0 0 40 := ⟨Nat.zero_le _, fun hx => absurd hx (by decide), fun _ => by unfold ze3; rw [if_pos ⟨h, hl⟩]⟩
theorem H1.word (h : fm.ty = true) (hl : 0 < l.length) : H1 fm l bound 1 (l.getD 0 0) (idE (l.getD 0 0) bound) := by
  refine ⟨hl, fun he => ⟨by rw [b2n, h]; rfl, by rw [h]; rfl, fun h2 => by omega, fun h2 => h2.2 he⟩, fun he => ?_⟩
  have h43 : idE (l.getD 0 0) bound = 43 := by
    unfold idE at he ⊢; split
    · rfl
    · rename_i hn; rw [if_neg hn] at he; exact absurd rfl he
  unfold ze3
  rw [if_neg (fun h2 => by omega), if_pos ⟨h, he⟩, h43]
def H2 (fm : FormL) (l : List Int) (bound : Int) (a : Nat) (ty res e : Int) : Prop := a ≤ l.length ∧ (e = 0 → (ze3 fm l bound).2 = 0 ∧ a = b2n fm.ty + b2n fm.res ∧ ty = (if fm.ty = true then l.getD 0 0 else 0) ∧ res = (if fm.res = true then l.getD (b2n fm.ty) 0 else 0)) ∧ (e ≠ 0 → (ze3 fm l bound).2 = e)
theorem H2.err {a : Nat} {ty e : Int} (h : H1 fm l bound a ty e) (he : e ≠ 0) : H2 fm l bound a ty 0 e := ⟨h.1, fun h2 => absurd h2 he, h.2.2⟩
theorem H2.lacks {a : Nat} {ty : Int} (h : H1 fm l bound a ty 0) (hr : fm.res = true) (hl : a = l.length) : H2 fm l bound a ty 0 41 := by
  have h1 := h.2.1 rfl
  refine ⟨h.1, fun hx => absurd hx De, fun _ => ?_⟩
  unfold ze3
  rw [if_neg h1.2.2.1, if_neg h1.2.2.2, if_pos ⟨hr, by omega⟩]
theorem H2.word {a : Nat} {ty : Int} (h : H1 fm l bound a ty 0) (hr : fm.res = true) (hl : a < l.length) : H2 fm l bound (a + 1) ty (l.getD a 0) (idE (l.getD a 0) bound) := by
  have h1 := h.2.1 rfl
  have ha := h1.1
  subst ha
  refine ⟨hl, fun he => ⟨?_, by rw [b2n.eq_def fm.res, hr]; rfl, h1.2.1, by rw [hr]; rfl⟩, fun he => ?_⟩
  · unfold ze3
    rw [if_neg h1.2.2.1, if_neg h1.2.2.2, if_neg (fun h2 => by omega), if_neg (fun h2 => h2.2 he)]
  · have h43 : idE (l.getD (b2n fm.ty) 0) bound = 43 := by
      unfold idE at he ⊢; split
      · rfl
      · rename_i hn; rw [if_neg hn] at he; exact absurd rfl he
    unfold ze3
    rw [if_neg h1.2.2.1, if_neg h1.2.2.2, if_neg (fun h2 => by omega), if_pos ⟨hr, he⟩, h43]
theorem H2.zero {a : Nat} {ty res e : Int} (h : H2 fm l bound a ty res e) (hs : (zpE fm bound l).2 = 0) : e = 0 := Classical.byContradiction fun he => by
  have h1 := h.2.2 he
  rw [zlC (by rw [h1]; exact he), h1] at hs
  exact he hs
def A1 (fm : FormL) (l : List Int) (bound : Int) (a : Nat) (e : Int) (ags : List ArgP) : Prop := a ≤ l.length ∧ ags.length ≤ a + 1 ∧ (e = 0 → ags.length ≤ a ∧ ags ++ (zk0 fm bound ags.length (l.drop a)).1 = (zpE fm bound l).1 ∧ (zk0 fm bound ags.length (l.drop a)).2 = (zpE fm bound l).2) ∧ (e ≠ 0 → (zpE fm bound l).2 = e)
theorem A1.start {a : Nat} {ty res e : Int} (h : H2 fm l bound a ty res e) : A1 fm l bound a e [] := by
  refine ⟨h.1, Nat.zero_le _, fun he => ⟨Nat.zero_le _, ?_⟩, fun he => ?_⟩
  · have h1 := h.2.1 he
    rw [zsd h1.1, ← h1.2.1]
    exact ⟨rfl, rfl⟩
  · have h1 := h.2.2 he
    rw [zlC (by rw [h1]; exact he), h1]
theorem A1.step {a a2 : Nat} {ags ags2 : List ArgP} {c : Int} (h : A1 fm l bound a 0 ags) (hc : zaP fm (ags.length : Int) = c) (hgo : l.length - a > 0 ∨ ags.length < fm.fixed.length)
    (hE : (zit c (l.drop a) bound).2.2 = 0 → a2 = a + (zit c (l.drop a) bound).2.1 ∧ ags2 = ags ++ [(zit c (l.drop a) bound).1]) (ha2 : a2 ≤ l.length) (hn : ags2.length ≤ ags.length + 1) (hle : a ≤ a2 ∨ (zit c (l.drop a) bound).2.2 = 0) : A1 fm l bound a2 (zit c (l.drop a) bound).2.2 ags2 := by
  subst hc
  have h1 := h.2.2.1 rfl
  refine ⟨ha2, ?_, fun he => ?_, fun he => ?_⟩
  · rcases hle with hh | hh
    · omega
    · have := hE hh; omega
  · have h2 := hE he
    have h3 := zmO he
    have hs := zsn (fm := fm) (bound := bound) (k := ags.length) (ws := l.drop a) (a := (zit (zaP fm ags.length) (l.drop a) bound).1) (m := (zit (zaP fm ags.length) (l.drop a) bound).2.1) (by rw [List.length_drop]; omega) (by rw [← he])
    rw [List.drop_drop] at hs
    rw [h2.1, h2.2, List.length_append, List.length_singleton]
    rw [hs] at h1
    exact ⟨by omega, by rw [List.append_assoc]; exact h1.2.1, h1.2.2⟩
  · rw [← h1.2.2, zou (by rw [List.length_drop]; omega) he]
def A1mu (n a : Nat) (e : Int) : Nat := if e = 0 then n - a + 1 else 0
theorem A1mu.step {n a a2 : Nat} {e2 : Int} (h : e2 = 0 → a < a2 ∧ a2 ≤ n) : A1mu n a2 e2 < A1mu n a 0 := by
  unfold A1mu
  rw [if_pos rfl]
  split
  · rename_i he; have := h he; omega
  · omega
end
end Go.SK
namespace Go.SK
section
variable {fm : FormL} {bound : Int} {l : List Int}
theorem A1.err {a : Nat} {ags : List ArgP} {c e : Int} (h : A1 fm l bound a 0 ags) (hc : zaP fm (ags.length : Int) = c) (hgo : l.length - a > 0 ∨ ags.length < fm.fixed.length) (hE : (zit c (l.drop a) bound).2.2 = e) (he : e ≠ 0) : (zpE fm bound l).2 = e := by
  subst hc
  have h1 := h.2.2.1 rfl
  rw [← h1.2.2, zou (by rw [List.length_drop]; omega) (by rw [hE]; exact he), hE]
end
end Go.SK
namespace Go.SK
open Go.RowKit Go.ChangeShapes Go.WideShapes Go.ChangeAt
abbrev WrC (Tc Tw : TypeId) (bq : Nat) (fm : FormL) (bound : Int) (ao : Option Addr) (cp : Nat) (ws : List Int) (room : Int) : Res :=
  Res.star [Res.row bq Tc [.int .u16 fm.op, str fm.name, .bool fm.ty, .bool fm.res, str fm.fixed, str fm.rest, .int .i64 fm.most, .int .u8 fm.part, .int .u32 bound, .slice ao ws.length cp, .int .i64 room], Res.sl ao ws.length cp Tw 1 (ws.flatMap zdE)]
def mustW (must : Bool) (n : Int) : List Int := if must = true then [n] else []
theorem zn2 {must : Bool} {n bound e : Int} (h : must ≠ decide (n ≠ 0)) : idH must n bound e = e := if_pos h
theorem zw3 {must : Bool} {n bound e : Int} (h : ¬ must ≠ decide (n ≠ 0)) (hm : must = false) : idH must n bound e = 0 := by unfold idH; rw [if_neg h, if_neg (by rw [hm]; simp)]
theorem idH_id {must : Bool} {n bound e : Int} (h : ¬ must ≠ decide (n ≠ 0)) (hm : must = true) : idH must n bound e = idE n bound := by
  subst hm
  have hn : n ≠ 0 := by
    intro e; apply h; subst e; decide
  unfold idH idE
  rw [if_neg h]
  by_cases hb : n ≥ bound
  · rw [if_pos ⟨rfl, hb⟩, if_pos (.inr hb)]
  · rw [if_neg (fun hx => hb hx.2), if_neg (fun hx => hx.elim hn hb)]
def zjP (s : List UInt8) : Int := if zbS s ≠ s.length then 13 else 0
theorem ziC {s : List UInt8} (h : zds s = 0) : (zby s).length = s.length / 4 + 1 := by
  rw [ziD h, zfh, zeq]; omega
theorem zj5 (s : List UInt8) : (zby s).length ≤ s.length / 4 + 1 := by
  by_cases h : zds s = 0
  · rw [ziC h]; exact Nat.le_refl _
  · rw [zdF h]; exact Nat.zero_le _
section
variable {c bound : Int} {a : ArgP}
theorem zcI (h : c = 0 ∨ a.kind ≠ zbZ c ∨ (a.kind = 3 ∧ a.n ≠ 0) ∨ (a.kind ≠ 3 ∧ a.s ≠ [])) : zbN c a bound = 42 := by
  unfold zbN
  by_cases h1 : c = 0 ∨ a.kind ≠ zbZ c
  · rw [if_pos h1]
  · rw [if_neg h1]
    rcases h with h | h | h
    · exact absurd (.inl h) h1
    · exact absurd (.inr h) h1
    · rw [if_pos h]
theorem zpb (h : ¬ c = 0) (hk : ¬ a.kind ≠ zbZ c) (h3 : a.kind = 3) (hn : ¬ a.n ≠ 0) : zbN c a bound = zjP a.s := by
  unfold zbN
  rw [if_neg (fun hx => hx.elim h hk), if_neg (fun hx => hx.elim (fun hy => hn hy.2) (fun hy => hy.1 h3)), if_neg (by omega), if_neg (by omega)]
  rfl
theorem zix (h : ¬ c = 0) (hk : ¬ a.kind ≠ zbZ c) (h3 : ¬ a.kind = 3) (hs : ¬ a.s ≠ []) : zbN c a bound = if a.kind = 1 then idE a.n bound else if a.kind = 4 then zfT c a.n else 0 := by
  have hs0 : a.s = [] := Nn hs
  have hz : ¬ zbS a.s ≠ a.s.length := by rw [hs0]; simp [zbS]
  unfold zbN
  rw [if_neg (fun hx => hx.elim h hk), if_neg (fun hx => hx.elim (fun hy => h3 hy.1) (fun hy => hs hy.2))]
  by_cases k1 : a.kind = 1
  · rw [if_pos k1]
    by_cases he : idE a.n bound = 0
    · rw [if_neg (fun hx => hx.2 he), if_neg (by omega), if_neg hz, he]
    · rw [if_pos ⟨k1, he⟩]
      unfold idE at he ⊢; split
      · rfl
      · rename_i hn; rw [if_neg hn] at he; exact absurd rfl he
  · rw [if_neg k1, if_neg (fun hx => k1 hx.1)]
    by_cases k4 : a.kind = 4
    · rw [if_pos k4]
      by_cases he : zfT c a.n = 0
      · rw [if_neg (fun hx => hx.2 he), if_neg hz, he]
      · rw [if_pos ⟨k4, he⟩]
        unfold zfT at he ⊢; split
        · rename_i hn; rw [if_pos hn] at he; exact absurd rfl he
        · rfl
    · rw [if_neg k4, if_neg (fun hx => k4 hx.1), if_neg hz]
theorem zd8 (h : a.kind = 3) : zpN a = zby a.s ∧ za1 a = a.s.length / 4 + 1 := by unfold zpN za1; rw [if_pos h, if_pos h]; exact ⟨rfl, rfl⟩
theorem zek (h : ¬ a.kind = 3) : zpN a = [a.n] ∧ za1 a = 1 := by unfold zpN za1; rw [if_neg h, if_neg h]; exact ⟨rfl, rfl⟩
end
end Go.SK
namespace Go.SK
open Go.RowKit Go.ChangeShapes Go.WideShapes Go.ChangeAt
section
variable {bound : Int} {i : InstL}
theorem zkm (h : (zbv i.op).isSome = false) : zbu bound i = 30 := if_pos h
theorem zcZ (h : (zbv i.op).isSome = true) : zbu bound i = if idH (zbq i.op).ty i.ty bound 40 ≠ 0 then idH (zbq i.op).ty i.ty bound 40
  else if idH (zbq i.op).res i.res bound 41 ≠ 0 then idH (zbq i.op).res i.res bound 41
  else if zb0 (zbq i.op) bound 0 i.args ≠ 0 then zb0 (zbq i.op) bound 0 i.args
  else if zlt (zbq i.op) i.args.length then 42
  else if zbT (zbq i.op) i.args > 65535 then 25 else 0 := by
  unfold zbu; rw [if_neg (by rw [h]; decide)]
theorem ziw {fm : FormL} {ys : List ArgP} : ∀ (xs : List ArgP) (k : Nat), zb0 fm bound k (xs ++ ys) = if zb0 fm bound k xs ≠ 0 then zb0 fm bound k xs else zb0 fm bound (k + xs.length) ys
  | [], k => by simp [zb0]
  | x :: xs, k => by
    rw [List.cons_append, zb0, zb0]
    by_cases h : zbN (zaP fm k) x bound ≠ 0
    · rw [if_pos h, if_pos h, if_pos h]
    · rw [if_neg h, if_neg h, ziw xs (k + 1), List.length_cons, show k + 1 + xs.length = k + (xs.length + 1) by omega]
theorem zhn {fm : FormL} {l : List ArgP} {k : Nat} (hk : k < l.length) (h : zb0 fm bound 0 (l.take k) = 0) : (zb0 fm bound 0 (l.take (k + 1)) = zbN (zaP fm (k : Int)) (l.getD k zeroA) bound) ∧ (zbN (zaP fm (k : Int)) (l.getD k zeroA) bound ≠ 0 → zb0 fm bound 0 l = zbN (zaP fm (k : Int)) (l.getD k zeroA) bound) := by
  have hl : (l.take k).length = k := by rw [List.length_take]; omega
  constructor
  · rw [zc4 (d := zeroA) hk, ziw, if_neg (fun e => e h), hl, Nat.zero_add, zb0]
    by_cases he : zbN (zaP fm (k : Int)) (l.getD k zeroA) bound ≠ 0
    · rw [if_pos he]
    · rw [if_neg he, zb0, Nn he]
  · intro he
    have e : l = l.take k ++ (l.getD k zeroA :: l.drop (k + 1)) := by
      have := List.take_append_drop k l
      rw [List.drop_eq_getElem_cons hk] at this
      simp only [List.getD, List.getElem?_eq_getElem hk, Option.getD_some]
      exact this.symm
    conv => lhs; rw [e]
    rw [ziw, if_neg (fun e => e h), hl, Nat.zero_add, zb0, if_pos he]
theorem ziR {fm : FormL} : ∀ (l : List ArgP) (k : Nat), zb0 fm bound k l = 0 → ∀ j, j < l.length → zaP fm ((k + j : Nat) : Int) ≠ 0 ∧ (l.getD j zeroA).kind = zbZ (zaP fm ((k + j : Nat) : Int))
  | [], k, _, j, hj => by simp at hj
  | x :: l, k, h, j, hj => by
    rw [zb0] at h
    split at h
    · rename_i h1; exact absurd h h1
    · rename_i h1
      cases j with
      | zero =>
        have h2 := Nn h1
        unfold zbN at h2
        split at h2
        · cases h2
        · rename_i h3
          rw [Nat.add_zero]
          exact ⟨fun e => h3 (.inl e), Nn fun e => h3 (.inr (by simpa using e))⟩
      | succ j =>
        have := ziR l (k + 1) h j (by simpa using hj)
        rw [show k + 1 + j = k + (j + 1) by omega] at this
        simpa using this
theorem zex {op : Int} {l : List ArgP} (h : zb0 (zbq op) bound 0 l = 0) : zjw (zbq op) 0 (l.map ArgP.kind) = none :=
  zsb fun j hj => by
    have := ziR l 0 h j hj
    rwa [Nat.zero_add] at this
def zm3 (l : List ArgP) (k : Nat) : Nat := ((l.take k).map za1).sum
theorem zjQ {l : List ArgP} {k : Nat} (hk : k < l.length) : zm3 l (k + 1) = zm3 l k + za1 (l.getD k zeroA) := by
  unfold zm3; rw [zc4 (d := zeroA) hk]; simp
theorem zmd {l : List ArgP} {k : Nat} : zm3 l k ≤ (l.map za1).sum := by
  have := congrArg (fun l : List ArgP => (l.map za1).sum) (List.take_append_drop k l)
  simp only [List.map_append, List.sum_append] at this
  unfold zm3; omega
theorem zpQ (a : ArgP) : 1 ≤ za1 a := by unfold za1; split <;> omega
theorem zeE : ∀ l : List ArgP, l.length ≤ (l.map za1).sum
  | [] => Nat.le_refl _
  | a :: l => by have := zeE l; have := zpQ a; simp only [List.length_cons, List.map_cons, List.sum_cons]; omega
structure RW (bound : Int) (i : InstL) (k : Nat) (ws : List Int) (room e : Int) : Prop where
  ok : e = 0 → idH (zbq i.op).ty i.ty bound 40 = 0 ∧ idH (zbq i.op).res i.res bound 41 = 0 ∧ zb0 (zbq i.op) bound 0 (i.args.take k) = 0 ∧ ws = zfN (zbq i.op) i.ty i.res ++ (i.args.take k).flatMap zpN ∧ room = ((b2n (zbq i.op).ty + b2n (zbq i.op).res + zm3 i.args k : Nat) : Int)
  err : e ≠ 0 → zbu bound i = e
  len : ws.length ≤ 2 + zm3 i.args k
  r0 : 0 ≤ room
  r1 : room ≤ 2 + (zm3 i.args k : Int)
theorem RW.ty (hs : (zbv i.op).isSome = true) {ws : List Int} {room : Int} (he : idH (zbq i.op).ty i.ty bound 40 ≠ 0) (hl : ws.length ≤ 0 + 1) (h0 : 0 ≤ room) (h1 : room ≤ 0 + 1) : RW bound i 0 ws room (idH (zbq i.op).ty i.ty bound 40) :=
  ⟨fun h => absurd h he, fun _ => by rw [zcZ hs, if_pos he], by omega, h0, by omega⟩
theorem RW.start {ws2 : List Int} {room2 : Int} (hs : (zbv i.op).isSome = true) (h1 : idH (zbq i.op).ty i.ty bound 40 = 0)
    (h2 : idH (zbq i.op).res i.res bound 41 = 0 → ws2 = ([] ++ mustW (zbq i.op).ty i.ty) ++ mustW (zbq i.op).res i.res ∧ room2 = 0 + b2n (zbq i.op).ty + b2n (zbq i.op).res) (hl : ws2.length ≤ 2) (h0 : 0 ≤ room2) (hr : room2 ≤ 2) : RW bound i 0 ws2 room2 (idH (zbq i.op).res i.res bound 41) := by
  refine ⟨fun he => ?_, fun he => by rw [zcZ hs, if_neg (fun e => e h1), if_pos he], by omega, h0, by omega⟩
  obtain ⟨e1, e2⟩ := h2 he
  refine ⟨h1, he, rfl, ?_, ?_⟩
  · rw [e1]; simp [zfN, mustW]
  · rw [e2]; simp [zm3]
theorem RW.skip {k : Nat} {ws : List Int} {room e : Int} (h : RW bound i k ws room e) (he : e ≠ 0) (hk : k < i.args.length) : RW bound i (k + 1) ws room e := by
  have hs := zjQ hk
  exact ⟨fun h2 => absurd h2 he, h.err, by have := h.len; omega, h.r0, by have := h.r1; omega⟩
theorem RW.step {k : Nat} {ws ws2 : List Int} {room room2 : Int} (h : RW bound i k ws room 0) (hs : (zbv i.op).isSome = true) (hk : k < i.args.length)
    (hE : zbN (zaP (zbq i.op) (k : Int)) (i.args.getD k zeroA) bound = 0 → ws2 = ws ++ zpN (i.args.getD k zeroA) ∧ room2 = room + (za1 (i.args.getD k zeroA) : Int)) (hl : ws2.length ≤ ws.length + za1 (i.args.getD k zeroA)) (h0 : 0 ≤ room2) (hr : room2 ≤ room + (za1 (i.args.getD k zeroA) : Int)) :
    RW bound i (k + 1) ws2 room2 (zbN (zaP (zbq i.op) (k : Int)) (i.args.getD k zeroA) bound) := by
  have hsum := zjQ hk
  have ho := h.ok rfl
  have ht := zhn hk ho.2.2.1
  refine ⟨fun he => ?_, fun he => ?_, by have := h.len; omega, h0, by have := h.r1; omega⟩
  · obtain ⟨e1, e2⟩ := hE he
    refine ⟨ho.1, ho.2.1, ht.1.trans he, ?_, ?_⟩
    · rw [e1, ho.2.2.2.1, zc4 (d := zeroA) hk]; simp
    · rw [e2, ho.2.2.2.2, hsum]; omega
  · rw [zcZ hs, if_neg (fun e => e ho.1), if_neg (fun e => e ho.2.1), if_pos (by rw [ht.2 he]; exact he), ht.2 he]
theorem RW.full {ws : List Int} {room : Int} (h : RW bound i i.args.length ws room 0) (hs : (zbv i.op).isSome = true) : ws = zhg (zbq i.op) i ∧ room + 1 = (zbT (zbq i.op) i.args : Int) ∧ zbu bound i = if zgh i.op i.args ≠ 0 then zgh i.op i.args else if zbT (zbq i.op) i.args > 65535 then 25 else 0 := by
  have ho := h.ok rfl
  rw [List.take_length] at ho
  refine ⟨ho.2.2.2.1, ?_, ?_⟩
  · rw [ho.2.2.2.2]; unfold zm3 zbT; rw [List.take_length]; omega
  · rw [zcZ hs, if_neg (fun e => e ho.1), if_neg (fun e => e ho.2.1), if_neg (fun e => e ho.2.2.1), zs6 hs (zex ho.2.2.1)]
    by_cases hf : zlt (zbq i.op) i.args.length
    · rw [if_pos hf, if_pos hf, if_pos (by decide)]
    · rw [if_neg hf, if_neg hf, zi7]
theorem zgO {e : Int} (h : zbu bound i = e) (he : e ≠ 0) : zis bound i = ((0, []), e) := by unfold zis; rw [h, if_pos he]
theorem zps (h : zbu bound i = 0) : zis bound i = ((i.op, zhg (zbq i.op) i), 0) := by unfold zis; rw [if_neg (fun e => e h)]
end
end Go.SK
namespace Go.SK
open Go.RowKit Go.ChangeShapes Go.WideShapes Go.ChangeAt
section
variable {bound : Int}
theorem zlo {i : InstL} : (zis bound i).2 = zbu bound i := by
  unfold zis; split
  · rfl
  · rename_i h; exact (Nn h).symm
theorem zpI {i : InstL} (h : zbu bound i = 0) : (zbv i.op).isSome = true ∧ idH (zbq i.op).ty i.ty bound 40 = 0 ∧ idH (zbq i.op).res i.res bound 41 = 0 ∧ zb0 (zbq i.op) bound 0 i.args = 0 ∧ ¬ zlt (zbq i.op) i.args.length ∧ zbT (zbq i.op) i.args ≤ 65535 := by
  cases hs : (zbv i.op).isSome with
  | false => rw [zkm hs] at h; cases h
  | true =>
    rw [zcZ hs] at h
    split at h
    · rename_i h1; exact absurd h h1
    · rename_i h1
      split at h
      · rename_i h2; exact absurd h h2
      · rename_i h2
        split at h
        · rename_i h3; exact absurd h h3
        · rename_i h3
          split at h
          · cases h
          · rename_i h4
            split at h
            · cases h
            · rename_i h5
              exact ⟨rfl, Nn h1, Nn h2, Nn h3, h4, by omega⟩
theorem zk8 {fm : FormL} : ∀ (l : List ArgP) (k : Nat), zb0 fm bound k l = 0 → ∀ a ∈ l, ∃ c : Int, zbN c a bound = 0
  | [], _, _, a, h => by cases h
  | x :: l, k, h, a, ha => by
    rw [zb0] at h
    split at h
    · rename_i h1; exact absurd h h1
    · rename_i h1
      cases ha with
      | head => exact ⟨_, Nn h1⟩
      | tail _ ha => exact zk8 l (k + 1) h a ha
theorem zdg {c : Int} {a : ArgP} (h : zbN c a bound = 0) : c ≠ 0 ∧ a.kind = zbZ c ∧ (a.kind = 3 → a.n = 0) ∧ (a.kind ≠ 3 → a.s = []) ∧ (a.kind = 1 → idE a.n bound = 0) ∧ (a.kind = 4 → zfT c a.n = 0) ∧ zbS a.s = a.s.length := by
  unfold zbN at h
  split at h
  · cases h
  · rename_i h1
    split at h
    · cases h
    · rename_i h2
      split at h
      · cases h
      · rename_i h3
        split at h
        · cases h
        · rename_i h4
          split at h
          · cases h
          · rename_i h5
            exact ⟨fun e => h1 (.inl e), Nn fun e => h1 (.inr e), fun k => Nn fun e => h2 (.inl ⟨k, e⟩), fun k => Nn fun e => h2 (.inr ⟨k, e⟩), fun k => Nn fun e => h3 ⟨k, e⟩, fun k => Nn fun e => h4 ⟨k, e⟩, Nn h5⟩
theorem zpP {l : List ArgP} {a : ArgP} (h : a ∈ l) : za1 a ≤ (l.map za1).sum := by
  induction l with
  | nil => cases h
  | cons x l ih =>
    simp only [List.map_cons, List.sum_cons]
    cases h with
    | head => omega
    | tail _ h => have := ih h; omega
theorem zwy {c : Int} {a : ArgP} (h : zbN c a bound = 0) (hr : za1 a ≤ 65535) : (zpN a).length = za1 a := by
  have hz := (zdg h).2.2.2.2.2.2
  by_cases hk : a.kind = 3
  · rw [(zd8 hk).1, (zd8 hk).2]
    rw [(zd8 hk).2] at hr
    exact ziC (by unfold zds; rw [if_neg (fun e => e hz), if_neg (by omega)])
  · rw [(zek hk).1, (zek hk).2]; rfl
theorem zoa : ∀ {l : List ArgP}, (∀ a ∈ l, (zpN a).length = za1 a) → (l.flatMap zpN).length = (l.map za1).sum
  | [], _ => rfl
  | a :: l, h => by
    simp only [List.flatMap_cons, List.length_append, List.map_cons, List.sum_cons]
    rw [h a (.head _), zoa fun b hb => h b (.tail _ hb)]
theorem zlb {i : InstL} (h : zbu bound i = 0) : (zhg (zbq i.op) i).length + 1 = zbT (zbq i.op) i.args ∧ (zhg (zbq i.op) i).length < 65535 := by
  have hp := zpI h
  have hl : (zhg (zbq i.op) i).length + 1 = zbT (zbq i.op) i.args := by
    have hr := hp.2.2.2.2.2
    unfold zhg zbT at *
    rw [List.length_append, zoa (fun a ha => by
      obtain ⟨c, hc⟩ := zk8 _ _ hp.2.2.2.1 a ha
      exact zwy hc (by have := zpP ha; omega))]
    have : (zfN (zbq i.op) i.ty i.res).length = b2n (zbq i.op).ty + b2n (zbq i.op).res := by
      unfold zfN b2n; split <;> split <;> simp
    omega
  exact ⟨hl, by omega⟩
end
end Go.SK
namespace Go.SK
structure InstL.Okay (i : InstL) : Prop where
  op : 0 ≤ i.op ∧ i.op < 65536
  ty : 0 ≤ i.ty ∧ i.ty < 4294967296
  res : 0 ≤ i.res ∧ i.res < 4294967296
  args : ∀ a ∈ i.args, (0 ≤ a.n ∧ a.n < 4294967296) ∧ 0 ≤ a.kind ∧ a.kind < 256
theorem Wd.app {l m : List Int} (h1 : Wd l) (h2 : Wd m) : Wd (l ++ m) := fun x hx => (List.mem_append.1 hx).elim (h1 x) (h2 x)
theorem Wd.nil : Wd [] := fun x hx => by cases hx
theorem Wd.one {x : Int} (h : 0 ≤ x ∧ x < 4294967296) : Wd [x] := fun y hy => by cases hy with
  | head => exact h
  | tail _ h => cases h
end Go.SK
namespace Go.SK
open Go.RowKit Go.ChangeShapes Go.WideShapes Go.ChangeAt
abbrev DecL := (Int × Int × List InstL) × (Int × Int)
end Go.SK
namespace Go.SK
open Go.RowKit Go.ChangeShapes Go.WideShapes Go.ChangeAt
def oneL : List InstL := [⟨128, 1, 2, [⟨1, 3, []⟩, ⟨1, 4, []⟩]⟩]
structure Small (l : List InstP) : Prop where
  len : l.length ≤ 3000000000000
  op : ∀ i ∈ l, 0 ≤ i.op
  op2 : ∀ i ∈ l, i.op < 65536
  sum : ∀ i ∈ l, (i.args.map za1).sum ≤ 900000000
  txt : ∀ i ∈ l, ∀ a ∈ i.args, a.s.length ≤ 100000000000
theorem Small.args {l : List InstP} (h : Small l) : ∀ i ∈ l, i.args.length ≤ 900000000 := fun i hi => Nat.le_trans (zeE i.args) (h.sum i hi)
theorem Small.of {l m : List InstP} (h : l.map InstP.L = m.map InstP.L) (hm : Small m) : Small l := by
  have key : ∀ i ∈ l, ∃ j ∈ m, j.op = i.op ∧ j.args = i.args := fun i hi => by
    have : i.L ∈ m.map InstP.L := h ▸ List.mem_map_of_mem hi
    obtain ⟨j, hj, he⟩ := List.mem_map.1 this
    exact ⟨j, hj, congrArg InstL.op he, congrArg InstL.args he⟩
  refine ⟨by rw [znY h]; exact hm.len, fun i hi => ?_, fun i hi => ?_, fun i hi => ?_, fun i hi => ?_⟩ <;> obtain ⟨j, hj, h1, h2⟩ := key i hi
  · rw [← h1]; exact hm.op j hj
  · rw [← h1]; exact hm.op2 j hj
  · rw [← h2]; exact hm.sum j hj
  · rw [← h2]; exact hm.txt j hj
theorem Small.one {l : List InstP} (h : l.map InstP.L = oneL) : Small l :=
  Small.of (m := [⟨128, 1, 2, none, 0, [⟨1, 3, []⟩, ⟨1, 4, []⟩]⟩]) h ⟨by decide, by decide, by decide, by decide, by decide⟩
end Go.SK
namespace Go.SK
open Go.RowKit Go.ChangeShapes Go.WideShapes Go.ChangeAt
abbrev SQ := @zpq
abbrev RG := @zgM
abbrev NL := @RunL.nil
abbrev CN := @RunL.cons
abbrev TK := @RunL.take
abbrev OM := @zuG
abbrev TP := @RV.tmp
section
variable {P : Program} {b : Base} {k : List Item} {f : Nat → Value} {w : World} {E : Frame → World → Prop} {ops : Array Oper} {l : List Oper} {d : Option Tmp} {ty : TypeId} {pos : String} {aft : Array Edge} {x : Operand}
theorem SR {id : Nat} {y : Code} (h : RunL P b l.toArray l (.code y :: k) f w E) : Run P b (.code (.seq (.region id l.toArray false) y) :: k) f w E := zpq (zgM h)
theorem NSR {l2 : List Oper} {id : Nat} {y : Code} (h : RunL P b l2.toArray l2 (.code y :: k) f w E) : RunL P b ops [] (.code (.seq (.region id l2.toArray false) y) :: k) f w E := RunL.nil (zpq (zgM h))
theorem NR {l2 : List Oper} {id : Nat} (h : RunL P b l2.toArray l2 k f w E) : RunL P b ops [] (.code (.region id l2.toArray false) :: k) f w E := RunL.nil (zgM h)
abbrev mvO (x : Operand) (d : Option Tmp) (ty : TypeId) (pos : String) (aft : Array Edge) : Oper := { dst := d, op := .move x, type := ty, pos := pos, after := aft, guard := none }
abbrev asO (x : Operand) (d : Option Tmp) (ty : TypeId) (pos : String) (aft : Array Edge) : Oper := { dst := d, op := .assign x, type := ty, pos := pos, after := aft, guard := none }
theorem MI {a : Int} (h : ev b.n f x = .int .i64 a) (hk : RunL P b ops l k (zhB f d (.int .i64 a)) w E) : RunL P b ops (mvO x d ty pos aft :: l) k f w E := RunL.cons (zad h hk)
theorem AI {a : Int} (h : ev b.n f x = .int .i64 a) (hk : RunL P b ops l k (zhB f d (.int .i64 a)) w E) : RunL P b ops (asO x d ty pos aft :: l) k f w E := RunL.cons (Op1.assign h hk)
theorem MU {a : Int} (h : ev b.n f x = .int .u32 a) (hk : RunL P b ops l k (zhB f d (.int .u32 a)) w E) : RunL P b ops (mvO x d ty pos aft :: l) k f w E := RunL.cons (zad h hk)
theorem AU {a : Int} (h : ev b.n f x = .int .u32 a) (hk : RunL P b ops l k (zhB f d (.int .u32 a)) w E) : RunL P b ops (asO x d ty pos aft :: l) k f w E := RunL.cons (Op1.assign h hk)
theorem MH {a : Int} (h : ev b.n f x = .int .u16 a) (hk : RunL P b ops l k (zhB f d (.int .u16 a)) w E) : RunL P b ops (mvO x d ty pos aft :: l) k f w E := RunL.cons (zad h hk)
theorem MC {a : Int} (h : ev b.n f x = .int .u8 a) (hk : RunL P b ops l k (zhB f d (.int .u8 a)) w E) : RunL P b ops (mvO x d ty pos aft :: l) k f w E := RunL.cons (zad h hk)
theorem AC {a : Int} (h : ev b.n f x = .int .u8 a) (hk : RunL P b ops l k (zhB f d (.int .u8 a)) w E) : RunL P b ops (asO x d ty pos aft :: l) k f w E := RunL.cons (Op1.assign h hk)
theorem MB {a : Bool} (h : ev b.n f x = .bool a) (hk : RunL P b ops l k (zhB f d (.bool a)) w E) : RunL P b ops (mvO x d ty pos aft :: l) k f w E := RunL.cons (zad h hk)
theorem AB {a : Bool} (h : ev b.n f x = .bool a) (hk : RunL P b ops l k (zhB f d (.bool a)) w E) : RunL P b ops (asO x d ty pos aft :: l) k f w E := RunL.cons (Op1.assign h hk)
theorem MS {a : List UInt8} (h : ev b.n f x = str a) (hk : RunL P b ops l k (zhB f d (str a)) w E) : RunL P b ops (mvO x d ty pos aft :: l) k f w E := RunL.cons (zad h hk)
theorem AS {a : List UInt8} (h : ev b.n f x = str a) (hk : RunL P b ops l k (zhB f d (str a)) w E) : RunL P b ops (asO x d ty pos aft :: l) k f w E := RunL.cons (Op1.assign h hk)
theorem ML {a : Option Addr} {n c : Nat} (h : ev b.n f x = .slice a n c) (hk : RunL P b ops l k (zhB f d (.slice a n c)) w E) : RunL P b ops (mvO x d ty pos aft :: l) k f w E := RunL.cons (zad h hk)
theorem AL {a : Option Addr} {n c : Nat} (h : ev b.n f x = .slice a n c) (hk : RunL P b ops l k (zhB f d (.slice a n c)) w E) : RunL P b ops (asO x d ty pos aft :: l) k f w E := RunL.cons (Op1.assign h hk)
theorem MP {a c : Nat} (h : ev b.n f x = .pointer (some ⟨a, c, none⟩)) (hk : RunL P b ops l k (zhB f d (.pointer (some ⟨a, c, none⟩))) w E) : RunL P b ops (mvO x d ty pos aft :: l) k f w E := RunL.cons (zad h hk)
theorem AP {a c : Nat} (h : ev b.n f x = .pointer (some ⟨a, c, none⟩)) (hk : RunL P b ops l k (zhB f d (.pointer (some ⟨a, c, none⟩))) w E) : RunL P b ops (asO x d ty pos aft :: l) k f w E := RunL.cons (Op1.assign h hk)
end
section
variable {P : Program} {ty : TypeId} {ρ : Operand → Value} {w0 w : World} {C : Value → World → Prop} {M : Nat → Prop} {L L' D : List Res} {T T' : TypeId} {d : TypeDesc} {sz bytes : Nat} {zs : List Value} {x y : Operand} {b off : Nat} {v : Value} {l vs l' : List Value}
theorem SO (hst : St w0 M L D w) (hT : TyF P T d sz bytes zs) (hx : ρ x = .pointer (some ⟨b, off, none⟩)) (hy : ρ y = v) (hsel : Sel (Res.row b T' l) (Res.row b T' l') L L') (h : ∀ w' : World, St w0 M L' D w' → C undef w') (hv : v.cells = vs.toArray := by exact rfl) (hn : vs.length = sz := by exact rfl) (ho : vs.all ze2 = true := by exact rfl) (hp : Put l off vs l' := by repeat (first | exact Put.nil | apply Put.put | apply Put.skip)) : Op1 P (.store T x y) ty ρ w C := zbC hst hT hx hy hv hn ho hsel hp h
theorem Fills.c {place : Nat → Option (Nat × Nat)} {l vs l1 l' : List Value} {i : Nat} {x : Operand} {off size : Nat} {v : Value} {rest : List (Nat × Operand)} (hx : ρ x = v) (hp : place i = some (off, size) := by exact rfl) (hv : v.cells = vs.toArray := by exact rfl) (hn : vs.length = size := by exact rfl) (hs : Nat.ble 1 size = true := by exact rfl) (hput : Put l off vs l1 := by repeat (first | exact Put.nil | apply Put.put | apply Put.skip)) (h : Fills ρ place l1 rest l') : Fills ρ place l ((i, x) :: rest) l' := .cons hp hx hv hn hs hput h
theorem Ret.det {g : FuncId} {args : Array Value} (h : Ret P g args w (fun u w' => u = v ∧ St w NoM [] [] w')) (hst : St w0 M L D w) (hk : ∀ w' : World, St w0 M L D w' → C v w') : Ret P g args w C := h.mono fun _ w' ⟨e, hp⟩ => by subst e; exact hk w' (hst.keepc hp)
theorem zf0 {g : FuncId} {args : Array Value} {v2 : Value} (h : Ret P g args w (fun u w' => u = v ∧ St w NoM [] [] w')) (e : v = v2) (hst : St w0 M L D w) (hk : ∀ w' : World, St w0 M L D w' → C v2 w') : Ret P g args w C := by subst e; exact Ret.det h hst hk
end
end Go.SK
namespace Go.SK
open Go.RowKit
abbrev Pp (a b : Nat) : Value := .pointer (some ⟨a, b, none⟩)
abbrev zeS (x0 : Int) (x1 : List UInt8) (x2 : Int) : List Value := [.int .u8 x0, str x1, .int .i64 x2]
abbrev zbO (x0 : Int) (x1 : List UInt8) (x2 : Int) : Value := .agg #[.int .u8 x0, str x1, .int .i64 x2]
abbrev zbg (x0 : Int) (x1 : Int) (x2 : Int) (x3 : Option Addr) (x4 x5 : Nat) : List Value := [.int .u16 x0, .int .u32 x1, .int .u32 x2, .slice x3 x4 x5]
abbrev zbb (x0 : Int) (x1 : Int) (x2 : Int) (x3 : Option Addr) (x4 x5 : Nat) : Value := .agg #[.int .u16 x0, .int .u32 x1, .int .u32 x2, .slice x3 x4 x5]
abbrev zcX (x0 : Int) (x1 : Int) (x2 : List UInt8) : List Value := [.int .u8 x0, .int .u32 x1, str x2]
abbrev zcy (x0 : Int) (x1 : Int) (x2 : List UInt8) : Value := .agg #[.int .u8 x0, .int .u32 x1, str x2]
abbrev zaC (x0 : Int) (x1 : List UInt8) (x2 : Bool) (x3 : Bool) (x4 : List UInt8) (x5 : List UInt8) (x6 : Int) (x7 : Int) : List Value := [.int .u16 x0, str x1, .bool x2, .bool x3, str x4, str x5, .int .i64 x6, .int .u8 x7]
abbrev zau (x0 : Int) (x1 : List UInt8) (x2 : Bool) (x3 : Bool) (x4 : List UInt8) (x5 : List UInt8) (x6 : Int) (x7 : Int) : Value := .agg #[.int .u16 x0, str x1, .bool x2, .bool x3, str x4, str x5, .int .i64 x6, .int .u8 x7]
abbrev zdH (x0 : Int) (x1 : Int) (x2 : Option Addr) (x3 x4 : Nat) : List Value := [.int .u32 x0, .int .u32 x1, .slice x2 x3 x4]
abbrev zb2 (x0 : Int) (x1 : Int) (x2 : Option Addr) (x3 x4 : Nat) : Value := .agg #[.int .u32 x0, .int .u32 x1, .slice x2 x3 x4]
abbrev lII (x0 : Int) (x1 : Int) : List Value := [.int .i64 x0, .int .i64 x1]
abbrev gII (x0 : Int) (x1 : Int) : Value := .agg #[.int .i64 x0, .int .i64 x1]
abbrev lHL (x0 : Int) (x1 : Option Addr) (x2 x3 : Nat) : List Value := [.int .u16 x0, .slice x1 x2 x3]
abbrev gHL (x0 : Int) (x1 : Option Addr) (x2 x3 : Nat) : Value := .agg #[.int .u16 x0, .slice x1 x2 x3]
end Go.SK
namespace Go.SK
open Go.RowKit
section
variable {P : Program} {b : Base} {k : List Item} {E : Frame → World → Prop} {ops : Array Oper} {f : Nat → Value} {w0 w : World} {M : Nat → Prop} {L D : List Res} {pd : zkN} {tk : zdC} {bs : List Nat} {ds : List (Option Nat)} {i : Nat} {l : List Oper} {ws : Nat → zhe} {n : Nat} {f' : Nat → Value} {L' : List Res} {w' : World}
theorem Know1.z {v : Value} (hc : Know1 tk bs ds f w0 M L D i ws f' L' w') : ∃ rs, SK.det v v rs ∧ St w0 M (rs ++ (L' ++ L)) D w' := ⟨[], ⟨rfl, rfl⟩, hc.st⟩
theorem Know1.d (hc : Know1 tk bs ds f w0 M L D i ws f' L' w') (j : Nat) {t : Nat} {v : Value} (hw : zm4 (bs.getD i 0) j = true) (hd : ds.getD j none = some t) (hj : ws j = cw (SK.det v)) (ht : Nat.blt t n = true) : ev n f' (.tmp t) = v := hc.det hw hd hj ht
theorem DO {v : Value} {d : Option Tmp} {op : Op} {ty : TypeId} {pos : String} {aft : Array Edge} (htab : DrawTab ops bs ds) (i' : Nat)
    (hv : ∀ f' L' w', Know1 tk bs ds f w0 M L D i ws f' L' w' → Op1 P op ty (ev b.n f') w' (fun u w'' => ∃ rs, SK.det v u rs ∧ St w0 M (rs ++ (L' ++ L)) D w''))
    (h : RunD tk pd P b ops bs ds k E f w0 M L D w i' l (zo9 ws i (cw (SK.det v)))) (hi : i + 1 = i' := by rfl) (hd : zdi op = false := by rfl) (hp : (pd.all fun p => !(Nat.beq p.1 i)) = true := by rfl) (hk : zvi tk i = true := by rfl) : RunD tk pd P b ops bs ds k E f w0 M L D w i (⟨d, op, ty, pos, aft, none⟩ :: l) ws := RunD.op (SK.det v) htab i' hv h hi hd hp hk
end
theorem zbe {n : Int} (h1 : -9223372036854775808 ≤ n := by omega) (h2 : n ≤ 9223372036854775807 := by omega) : IntKind.i64.wrap n = n := zqn h1 h2
theorem Wi32 {n : Int} (h1 : -2147483648 ≤ n := by omega) (h2 : n ≤ 2147483647 := by omega) : IntKind.i32.wrap n = n := zvn h1 h2
theorem Wu8 {n : Int} (h1 : 0 ≤ n := by omega) (h2 : n ≤ 255 := by omega) : IntKind.u8.wrap n = n := zs2 h1 h2
theorem zkM {n : Int} (h1 : 0 ≤ n := by omega) (h2 : n ≤ 4294967295 := by omega) : IntKind.u32.wrap n = n := wrap_u32 h1 h2
theorem zdV {n : Int} (h1 : 0 ≤ n := by omega) (h2 : n ≤ 18446744073709551615 := by omega) : IntKind.u64.wrap n = n := zvl h1 h2
end Go.SK
namespace Go.SK
open Go.RowKit
theorem Rem.u0 {r : Res} {L : List Res} : Rem r (r :: L) (L) := .here
theorem Sel.u0 {r r' : Res} {L : List Res} : Sel r r' (r :: L) (r' :: L) := .here
theorem Q0 {α : Type} {y : α} {L : List α} : List.Mem y (y :: L) := .head _
theorem Rem.u1 {r : Res} {x0 : Res} {L : List Res} : Rem r (x0 :: r :: L) (x0 :: L) := .there .here
theorem Sel.u1 {r r' : Res} {x0 : Res} {L : List Res} : Sel r r' (x0 :: r :: L) (x0 :: r' :: L) := .there .here
theorem Q1 {α : Type} {y : α} {x0 : α} {L : List α} : List.Mem y (x0 :: y :: L) := .tail _ (.head _)
theorem Rem.u2 {r : Res} {x0 x1 : Res} {L : List Res} : Rem r (x0 :: x1 :: r :: L) (x0 :: x1 :: L) := .there (.there .here)
theorem Sel.u2 {r r' : Res} {x0 x1 : Res} {L : List Res} : Sel r r' (x0 :: x1 :: r :: L) (x0 :: x1 :: r' :: L) := .there (.there .here)
theorem Q2 {α : Type} {y : α} {x0 x1 : α} {L : List α} : List.Mem y (x0 :: x1 :: y :: L) := .tail _ (.tail _ (.head _))
theorem Rem.u3 {r : Res} {x0 x1 x2 : Res} {L : List Res} : Rem r (x0 :: x1 :: x2 :: r :: L) (x0 :: x1 :: x2 :: L) := .there (.there (.there .here))
theorem Sel.u3 {r r' : Res} {x0 x1 x2 : Res} {L : List Res} : Sel r r' (x0 :: x1 :: x2 :: r :: L) (x0 :: x1 :: x2 :: r' :: L) := .there (.there (.there .here))
theorem Q3 {α : Type} {y : α} {x0 x1 x2 : α} {L : List α} : List.Mem y (x0 :: x1 :: x2 :: y :: L) := .tail _ (.tail _ (.tail _ (.head _)))
theorem Rem.u4 {r : Res} {x0 x1 x2 x3 : Res} {L : List Res} : Rem r (x0 :: x1 :: x2 :: x3 :: r :: L) (x0 :: x1 :: x2 :: x3 :: L) := .there (.there (.there (.there .here)))
theorem Sel.u4 {r r' : Res} {x0 x1 x2 x3 : Res} {L : List Res} : Sel r r' (x0 :: x1 :: x2 :: x3 :: r :: L) (x0 :: x1 :: x2 :: x3 :: r' :: L) := .there (.there (.there (.there .here)))
theorem Q4 {α : Type} {y : α} {x0 x1 x2 x3 : α} {L : List α} : List.Mem y (x0 :: x1 :: x2 :: x3 :: y :: L) := .tail _ (.tail _ (.tail _ (.tail _ (.head _))))
theorem Rem.u5 {r : Res} {x0 x1 x2 x3 x4 : Res} {L : List Res} : Rem r (x0 :: x1 :: x2 :: x3 :: x4 :: r :: L) (x0 :: x1 :: x2 :: x3 :: x4 :: L) := .there (.there (.there (.there (.there .here))))
theorem Sel.u5 {r r' : Res} {x0 x1 x2 x3 x4 : Res} {L : List Res} : Sel r r' (x0 :: x1 :: x2 :: x3 :: x4 :: r :: L) (x0 :: x1 :: x2 :: x3 :: x4 :: r' :: L) := .there (.there (.there (.there (.there .here))))
theorem Q5 {α : Type} {y : α} {x0 x1 x2 x3 x4 : α} {L : List α} : List.Mem y (x0 :: x1 :: x2 :: x3 :: x4 :: y :: L) := .tail _ (.tail _ (.tail _ (.tail _ (.tail _ (.head _)))))
theorem Rem.u8 {r : Res} {x0 x1 x2 x3 x4 x5 x6 x7 : Res} {L : List Res} : Rem r (x0 :: x1 :: x2 :: x3 :: x4 :: x5 :: x6 :: x7 :: r :: L) (x0 :: x1 :: x2 :: x3 :: x4 :: x5 :: x6 :: x7 :: L) := .there (.there (.there (.there (.there (.there (.there (.there .here)))))))
theorem Sel.u8 {r r' : Res} {x0 x1 x2 x3 x4 x5 x6 x7 : Res} {L : List Res} : Sel r r' (x0 :: x1 :: x2 :: x3 :: x4 :: x5 :: x6 :: x7 :: r :: L) (x0 :: x1 :: x2 :: x3 :: x4 :: x5 :: x6 :: x7 :: r' :: L) := .there (.there (.there (.there (.there (.there (.there (.there .here)))))))
theorem Rem.u16 {r : Res} {x0 x1 x2 x3 x4 x5 x6 x7 x8 x9 x10 x11 x12 x13 x14 x15 : Res} {L : List Res} : Rem r (x0 :: x1 :: x2 :: x3 :: x4 :: x5 :: x6 :: x7 :: x8 :: x9 :: x10 :: x11 :: x12 :: x13 :: x14 :: x15 :: r :: L) (x0 :: x1 :: x2 :: x3 :: x4 :: x5 :: x6 :: x7 :: x8 :: x9 :: x10 :: x11 :: x12 :: x13 :: x14 :: x15 :: L) := .there (.there (.there (.there (.there (.there (.there (.there (.there (.there (.there (.there (.there (.there (.there (.there .here)))))))))))))))
theorem Sel.u16 {r r' : Res} {x0 x1 x2 x3 x4 x5 x6 x7 x8 x9 x10 x11 x12 x13 x14 x15 : Res} {L : List Res} : Sel r r' (x0 :: x1 :: x2 :: x3 :: x4 :: x5 :: x6 :: x7 :: x8 :: x9 :: x10 :: x11 :: x12 :: x13 :: x14 :: x15 :: r :: L) (x0 :: x1 :: x2 :: x3 :: x4 :: x5 :: x6 :: x7 :: x8 :: x9 :: x10 :: x11 :: x12 :: x13 :: x14 :: x15 :: r' :: L) := .there (.there (.there (.there (.there (.there (.there (.there (.there (.there (.there (.there (.there (.there (.there (.there .here)))))))))))))))
theorem E2 {f : Nat → Value} {t0 t1 : Nat} : Slots f [(t0, f t0), (t1, f t1)] := ⟨rfl, rfl, trivial⟩
theorem E3 {f : Nat → Value} {t0 t1 t2 : Nat} : Slots f [(t0, f t0), (t1, f t1), (t2, f t2)] := ⟨rfl, rfl, rfl, trivial⟩
theorem E4 {f : Nat → Value} {t0 t1 t2 t3 : Nat} : Slots f [(t0, f t0), (t1, f t1), (t2, f t2), (t3, f t3)] := ⟨rfl, rfl, rfl, rfl, trivial⟩
theorem E5 {f : Nat → Value} {t0 t1 t2 t3 t4 : Nat} : Slots f [(t0, f t0), (t1, f t1), (t2, f t2), (t3, f t3), (t4, f t4)] := ⟨rfl, rfl, rfl, rfl, rfl, trivial⟩
theorem E6 {f : Nat → Value} {t0 t1 t2 t3 t4 t5 : Nat} : Slots f [(t0, f t0), (t1, f t1), (t2, f t2), (t3, f t3), (t4, f t4), (t5, f t5)] := ⟨rfl, rfl, rfl, rfl, rfl, rfl, trivial⟩
theorem E7 {f : Nat → Value} {t0 t1 t2 t3 t4 t5 t6 : Nat} : Slots f [(t0, f t0), (t1, f t1), (t2, f t2), (t3, f t3), (t4, f t4), (t5, f t5), (t6, f t6)] := ⟨rfl, rfl, rfl, rfl, rfl, rfl, rfl, trivial⟩
theorem E10 {f : Nat → Value} {t0 t1 t2 t3 t4 t5 t6 t7 t8 t9 : Nat} : Slots f [(t0, f t0), (t1, f t1), (t2, f t2), (t3, f t3), (t4, f t4), (t5, f t5), (t6, f t6), (t7, f t7), (t8, f t8), (t9, f t9)] := ⟨rfl, rfl, rfl, rfl, rfl, rfl, rfl, rfl, rfl, rfl, trivial⟩
theorem E11 {f : Nat → Value} {t0 t1 t2 t3 t4 t5 t6 t7 t8 t9 t10 : Nat} : Slots f [(t0, f t0), (t1, f t1), (t2, f t2), (t3, f t3), (t4, f t4), (t5, f t5), (t6, f t6), (t7, f t7), (t8, f t8), (t9, f t9), (t10, f t10)] := ⟨rfl, rfl, rfl, rfl, rfl, rfl, rfl, rfl, rfl, rfl, rfl, trivial⟩
theorem E12 {f : Nat → Value} {t0 t1 t2 t3 t4 t5 t6 t7 t8 t9 t10 t11 : Nat} : Slots f [(t0, f t0), (t1, f t1), (t2, f t2), (t3, f t3), (t4, f t4), (t5, f t5), (t6, f t6), (t7, f t7), (t8, f t8), (t9, f t9), (t10, f t10), (t11, f t11)] := ⟨rfl, rfl, rfl, rfl, rfl, rfl, rfl, rfl, rfl, rfl, rfl, rfl, trivial⟩
theorem rg2 : List.range 2 = [0, 1] := rfl
theorem rg4 : List.range 4 = [0, 1, 2, 3] := rfl
theorem rg6 : List.range 6 = [0, 1, 2, 3, 4, 5] := rfl
theorem rg7 : List.range 7 = [0, 1, 2, 3, 4, 5, 6] := rfl
theorem rg8 : List.range 8 = [0, 1, 2, 3, 4, 5, 6, 7] := rfl
theorem rg9 : List.range 9 = [0, 1, 2, 3, 4, 5, 6, 7, 8] := rfl
theorem zyh : List.range 10 = [0, 1, 2, 3, 4, 5, 6, 7, 8, 9] := rfl
theorem rg13 : List.range 13 = [0, 1, 2, 3, 4, 5, 6, 7, 8, 9, 10, 11, 12] := rfl
theorem Fc {α β : Type} {f : α → List β} {a : α} {l : List α} : (a :: l).flatMap f = f a ++ l.flatMap f := List.flatMap_cons
theorem Fn {α β : Type} {f : α → List β} : ([] : List α).flatMap f = [] := List.flatMap_nil
theorem Mc {α β : Type} {f : α → β} {a : α} {l : List α} : (a :: l).map f = f a :: l.map f := List.map_cons
theorem Mn {α β : Type} {f : α → β} : ([] : List α).map f = [] := List.map_nil
theorem Na {α : Type} (l : List α) : [] ++ l = l := List.nil_append l
theorem An {α : Type} (l : List α) : l ++ [] = l := List.append_nil l
theorem Ca {α : Type} (a : α) (l m : List α) : a :: l ++ m = a :: (l ++ m) := List.cons_append
theorem Ex {P : Program} {ty : TypeId} {ρ : Operand → Value} {w : World} {C : Value → World → Prop} {x : Operand} {i : Nat} {vs : List Value} (v : Value) (hx : ρ x = .tuple vs.toArray) (hv : vs[i]? = some v) (hc : C v w) : Op1 P (.extract x i) ty ρ w C := Op1.extract hx hv hc
end Go.SK
namespace Go.SK
abbrev Tx := List UInt8
def zfv (c : UInt8) : Bool := decide (65 ≤ c.toNat ∧ c.toNat ≤ 90 ∨ 97 ≤ c.toNat ∧ c.toNat ≤ 122 ∨ c.toNat = 95)
def zdT (c : UInt8) : Bool := decide (48 ≤ c.toNat ∧ c.toNat ≤ 57)
def zca (c : UInt8) : Bool := decide (c.toNat = 9 ∨ c.toNat = 13 ∨ c.toNat = 32)
def zji (c : UInt8) : Bool := zfv c || zdT c
def zch (s : Tx) : Tx := s.takeWhile zji
def zcY (c : UInt8) : Bool := decide (48 ≤ c.toNat ∧ c.toNat ≤ 57 ∨ 97 ≤ c.toNat ∧ c.toNat ≤ 102 ∨ 65 ≤ c.toNat ∧ c.toNat ≤ 70)
def zdO (c : UInt8) : Nat := if c.toNat ≤ 57 then c.toNat - 48 else if 97 ≤ c.toNat then c.toNat - 87 else c.toNat - 55
def zcl : Tx → Nat → Option Nat
  | [], n => some n
  | c :: r, n => if zdT c = true then zcl r (10 * n + (c.toNat - 48)) else none
def zcJ : Tx → Nat → Option Nat
  | [], n => some n
  | c :: r, n => if zcY c = true then zcJ r (16 * n + zdO c) else none
def zbn (s : Tx) : Option Nat := if s.length = 0 ∨ 10 < s.length ∨ (1 < s.length ∧ (s.getD 0 0).toNat = 48) then none else (zcl s 0).bind fun n => if n < 4294967296 then some n else none
def zba (s : Tx) : Int × Int :=
  match zbn s with
  | some n => ((n : Int), 0)
  | none =>
    if 1 < s.length ∧ (s.getD 0 0).toNat = 45 then
      match zbn (s.drop 1) with
      | some n => if 1 ≤ n ∧ n ≤ 2147483648 then (4294967296 - (n : Int), 0) else (0, 62)
      | none => (0, 62)
    else if s.length < 3 ∨ 10 < s.length ∨ (s.getD 0 0).toNat ≠ 48 ∨ (s.getD 1 0).toNat ≠ 120 then (0, 62)
    else match zcJ (s.drop 2) 0 with
      | some n => ((n : Int), 0)
      | none => (0, 62)
def zcs : Tx → Option (UInt8 × Nat)
  | [] => none
  | c :: r =>
    if c.toNat < 32 ∨ 126 < c.toNat ∨ c.toNat = 34 then none
    else if c.toNat ≠ 92 then some (c, 1)
    else if 0 < r.length ∧ ((r.getD 0 0).toNat = 34 ∨ (r.getD 0 0).toNat = 92) then some (r.getD 0 0, 2)
    else if 2 < r.length ∧ (r.getD 0 0).toNat = 120 ∧ zcY (r.getD 1 0) = true ∧ zcY (r.getD 2 0) = true then some (UInt8.ofNat (16 * zdO (r.getD 1 0) + zdO (r.getD 2 0)), 4)
    else none
def quoN : Nat → Tx → Option (Tx × Nat)
  | 0, _ => none
  | n + 1, s =>
    if s.length = 0 then none
    else if (s.getD 0 0).toNat = 34 then some ([], 1)
    else match zcs s with
      | none => none
      | some (c, k) => (quoN n (s.drop k)).map fun q => (c :: q.1, k + q.2)
structure TokL where
  kind : Int
  text : Tx
  at_ : Int
  deriving DecidableEq
def zf7 (s : Tx) : Except Int (Int × Tx × Nat) :=
  let c := s.getD 0 0
  if zfv c = true then .ok (1, zch s, (zch s).length)
  else if c.toNat = 37 then
    let t := zch (s.drop 1)
    if (zbn t).isSome = true then .ok (2, t, t.length + 1) else .error 62
  else if zdT c = true ∨ c.toNat = 45 then
    let t := s.take (1 + (zch (s.drop 1)).length)
    if (zba t).2 = 0 then .ok (3, t, t.length) else .error 62
  else if c.toNat = 34 then
    match quoN (s.drop 1).length (s.drop 1) with
    | none => .error 61
    | some (t, n) => .ok (4, t, n + 1)
  else if c.toNat = 61 then .ok (5, [61], 1)
  else .error 60
def zdh : Nat → Tx → Nat → List TokL × (Int × Int)
  | 0, _, _ => ([], (0, 0))
  | n + 1, s, k =>
    if s.length = 0 ∨ (s.getD 0 0).toNat = 59 then ([], (0, 0))
    else if zca (s.getD 0 0) = true then zdh n (s.drop 1) (k + 1)
    else match zf7 s with
      | .error e => ([], (e, (k : Int)))
      | .ok (kd, t, m) =>
        let r := zdh n (s.drop m) (k + m)
        if r.2.1 = 0 then (⟨kd, t, (k : Int)⟩ :: r.1, (0, 0)) else ([], r.2)
def za7 (s : Tx) : List TokL × (Int × Int) := zdh s.length s 0
def ziZ (n : Nat) : UInt8 := if n < 10 then UInt8.ofNat (48 + n) else UInt8.ofNat (87 + n)
def zjl (c : UInt8) : Tx := if c.toNat < 32 ∨ 126 < c.toNat then [92, 120, ziZ (c.toNat / 16), ziZ (c.toNat % 16)] else if c.toNat = 34 ∨ c.toNat = 92 then [92, c] else [c]
def zd0 (s : Tx) : Tx := 34 :: (s.flatMap zjl ++ [34])
def wrT (t : TokL) : Option Tx :=
  if t.kind = 1 then (if 0 < t.text.length ∧ zfv (t.text.getD 0 0) = true ∧ zch t.text = t.text then some t.text else none)
  else if t.kind = 2 then (if (zbn t.text).isSome = true then some (37 :: t.text) else none)
  else if t.kind = 3 then (if (zba t.text).2 = 0 then some t.text else none)
  else if t.kind = 4 then some (zd0 t.text)
  else if t.kind = 5 then (if t.text = [61] then some [61] else none)
  else none
end Go.SK
namespace Go.SK
def zfx (c : UInt8) : Int := if zca c = true then 1 else if zfv c = true then 2 else if zdT c = true then 3 else 0
theorem zeV {c : UInt8} (h : c.toNat = 9 ∨ c.toNat = 13 ∨ c.toNat = 32) : zfx c = 1 := by
  unfold zfx; rw [if_pos (show zca c = true from Dt h)]
theorem zeU {c : UInt8} (h0 : ¬ (c.toNat = 9 ∨ c.toNat = 13 ∨ c.toNat = 32)) (h : 65 ≤ c.toNat ∧ c.toNat ≤ 90 ∨ 97 ≤ c.toNat ∧ c.toNat ≤ 122 ∨ c.toNat = 95) : zfx c = 2 := by
  unfold zfx; rw [if_neg (by unfold zca; simpa using h0), if_pos (show zfv c = true from Dt h)]
theorem zeT {c : UInt8} (h0 : 48 ≤ c.toNat ∧ c.toNat ≤ 57) : zfx c = 3 := by
  unfold zfx; rw [if_neg (by unfold zca; simp; omega), if_neg (by unfold zfv; simp; omega), if_pos (show zdT c = true from Dt h0)]
theorem zeW {c : UInt8} (h0 : ¬ (c.toNat = 9 ∨ c.toNat = 13 ∨ c.toNat = 32)) (h1 : ¬ (65 ≤ c.toNat ∧ c.toNat ≤ 90 ∨ 97 ≤ c.toNat ∧ c.toNat ≤ 122 ∨ c.toNat = 95)) (h2 : ¬ (48 ≤ c.toNat ∧ c.toNat ≤ 57)) : zfx c = 0 := by
  unfold zfx; rw [if_neg (by unfold zca; simpa using h0), if_neg (by unfold zfv; simpa using h1), if_neg (by unfold zdT; simpa using h2)]
theorem znT {c : UInt8} (h : zfv c = true) : zca c = false := by
  unfold zfv at h; unfold zca; simp only [decide_eq_true_eq] at h; simp; omega
theorem zon {c : UInt8} (h : zdT c = true) : zca c = false := by
  unfold zdT at h; unfold zca; simp only [decide_eq_true_eq] at h; simp; omega
theorem zuq {c : UInt8} (h : zdT c = true) : zfv c = false := by
  unfold zdT at h; unfold zfv; simp only [decide_eq_true_eq] at h; simp; omega
theorem zgY (c : UInt8) : (zfx c = 1 ∧ zca c = true ∧ zfv c = false ∧ zdT c = false) ∨ (zfx c = 2 ∧ zca c = false ∧ zfv c = true ∧ zdT c = false) ∨ (zfx c = 3 ∧ zca c = false ∧ zfv c = false ∧ zdT c = true) ∨ (zfx c = 0 ∧ zca c = false ∧ zfv c = false ∧ zdT c = false) := by
  unfold zfx
  cases hl : zfv c with
  | true =>
    rw [znT hl]
    cases hd : zdT c with
    | true => rw [zuq hd] at hl; cases hl
    | false => simp
  | false =>
    cases hd : zdT c with
    | true => rw [zon hd]; simp
    | false => cases hb : zca c <;> simp
theorem zqT (c : UInt8) : 2 ≤ zfx c ↔ zji c = true := by
  unfold zji; rcases zgY c with ⟨e, b, l, d⟩ | ⟨e, b, l, d⟩ | ⟨e, b, l, d⟩ | ⟨e, b, l, d⟩ <;> rw [e, l, d] <;> simp
theorem zjq (c : UInt8) : zfx c = 2 ↔ zfv c = true := by
  rcases zgY c with ⟨e, b, l, d⟩ | ⟨e, b, l, d⟩ | ⟨e, b, l, d⟩ | ⟨e, b, l, d⟩ <;> rw [e, l] <;> simp
theorem zi9 {s : Tx} {i : Nat} (h : i < s.length) : s.drop i = s.getD i 0 :: s.drop (i + 1) := by
  rw [List.drop_eq_getElem_cons h]; simp [List.getD, h]
theorem zdv (s : Tx) (i k : Nat) : (s.drop i).getD k 0 = s.getD (i + k) 0 := by
  simp [List.getD, List.getElem?_drop]
theorem zhO {s : Tx} {i : Nat} (h : i < s.length) (hr : zji (s.getD i 0) = true) : (zch (s.drop i)).length = 1 + (zch (s.drop (i + 1))).length := by
  unfold zch; rw [zi9 h, List.takeWhile_cons, if_pos hr, List.length_cons]; omega
theorem zqF {s : Tx} {i : Nat} (h : i < s.length) (hr : ¬ zji (s.getD i 0) = true) : (zch (s.drop i)).length = 0 := by
  unfold zch; rw [zi9 h, List.takeWhile_cons, if_neg hr]; rfl
theorem ztl {s : Tx} {i : Nat} (h : s.length ≤ i) : (zch (s.drop i)).length = 0 := by
  rw [List.drop_eq_nil_of_le h]; rfl
theorem zgm (s : Tx) {n : Nat} (h : (zch s).length = n) : s.take n = zch s := by
  subst h; unfold zch
  induction s with
  | nil => rfl
  | cons c r ih => rw [List.takeWhile_cons]; split
                   · rw [List.length_cons, List.take_succ_cons, ih]
                   · rfl
theorem zxB {c : UInt8} (h : zfv c = true) : zji c = true := by unfold zji; rw [h]; rfl
def ziP (s : Tx) : Prop := s.length = 0 ∨ 10 < s.length ∨ (1 < s.length ∧ (s.getD 0 0).toNat = 48)
instance (s : Tx) : Decidable (ziP s) := by unfold ziP; infer_instance
def plR (s : Tx) : Nat := if ziP s then 0 else (zcl s 0).getD 0
theorem zeA (s : Tx) : zbn s = if ziP s then none else (zcl s 0).bind fun n => if n < 4294967296 then some n else none := rfl
theorem zfJ {s : Tx} (h : ziP s) : plR s = 0 ∧ (zbn s).isSome = false := by
  rw [zeA]; unfold plR; rw [if_pos h, if_pos h]; exact ⟨rfl, rfl⟩
theorem zfI {s : Tx} (h : ¬ ziP s) (hd : zcl s 0 = none) : plR s = 0 ∧ (zbn s).isSome = false := by
  rw [zeA]; unfold plR; rw [if_neg h, if_neg h, hd]; exact ⟨rfl, rfl⟩
theorem zgT {s : Tx} {n : Nat} (h : ¬ ziP s) (hd : zcl s 0 = some n) : plR s = n ∧ (zbn s).isSome = decide (n < 4294967296) := by
  rw [zeA]; unfold plR; rw [if_neg h, if_neg h, hd]
  refine ⟨rfl, ?_⟩
  show (if n < 4294967296 then some n else none).isSome = _
  split <;> rename_i h1 <;> simp [h1]
theorem zj3 {s : Tx} {n : Nat} (h : zbn s = some n) : plR s = n ∧ n < 4294967296 := by
  by_cases hb : ziP s
  · have := (zfJ hb).2; rw [h] at this; cases this
  · cases hd : zcl s 0 with
    | none => have := (zfI hb hd).2; rw [h] at this; cases this
    | some m =>
      have e := zgT hb hd
      rw [h] at e; simp at e
      refine ⟨?_, ?_⟩
      · have : zbn s = some m := by rw [zeA, if_neg hb, hd]; show (if m < 4294967296 then some m else none) = _; rw [if_pos e.2]
        rw [h] at this; cases this; exact e.1
      · have : zbn s = some m := by rw [zeA, if_neg hb, hd]; show (if m < 4294967296 then some m else none) = _; rw [if_pos e.2]
        rw [h] at this; cases this; exact e.2
theorem zhk {c : UInt8} (h : zdT c = true) : 48 ≤ c.toNat ∧ c.toNat ≤ 57 := by unfold zdT at h; simpa using h
theorem zd5 {c : UInt8} (h : zcY c = true) : (48 ≤ c.toNat ∧ c.toNat ≤ 57 ∨ 97 ≤ c.toNat ∧ c.toNat ≤ 102 ∨ 65 ≤ c.toNat ∧ c.toNat ≤ 70) ∧ zdO c ≤ 15 := by
  unfold zcY at h; simp only [decide_eq_true_eq] at h
  refine ⟨h, ?_⟩
  unfold zdO; split
  · omega
  · split <;> omega
theorem zd4 {s : Tx} {i n : Nat} (h : i < s.length) (hd : zcY (s.getD i 0) = true) : zcJ (s.drop i) n = zcJ (s.drop (i + 1)) (16 * n + zdO (s.getD i 0)) := by
  rw [zi9 h, zcJ, if_pos hd]
theorem zct {s : Tx} {i n : Nat} (h : i < s.length) (hd : ¬ zcY (s.getD i 0) = true) : zcJ (s.drop i) n = none := by
  rw [zi9 h, zcJ, if_neg hd]
theorem zmt {s : Tx} {i n : Nat} (h : s.length ≤ i) : zcJ (s.drop i) n = some n := by
  rw [List.drop_eq_nil_of_le h]; rfl
theorem zmk {i : Nat} (h : i ≤ 7) : 16 ^ i ≤ 268435456 := by
  have : 16 ^ i ≤ 16 ^ 7 := Nat.pow_le_pow_right Om h
  omega
theorem zc5 {i n d : Nat} (h : n < 16 ^ i) (hd : d ≤ 15) : 16 * n + d < 16 ^ (i + 1) := by rw [Nat.pow_succ]; omega
theorem zfo {s : Tx} {n : Nat} (h : zbn s = some n) : zba s = ((n : Int), 0) := by unfold zba; rw [h]
theorem zlv {s : Tx} {n : Nat} (h : zbn s = none) (h1 : 1 < s.length ∧ (s.getD 0 0).toNat = 45) (h2 : zbn (s.drop 1) = some n) (h3 : 1 ≤ n ∧ n ≤ 2147483648) : zba s = (4294967296 - (n : Int), 0) := by
  unfold zba; rw [h]; dsimp only; rw [if_pos h1, h2]; dsimp only; rw [if_pos h3]
theorem zdt {s : Tx} (h : zbn s = none) (h1 : 1 < s.length ∧ (s.getD 0 0).toNat = 45) (h2 : ∀ n, zbn (s.drop 1) = some n → ¬ (1 ≤ n ∧ n ≤ 2147483648)) : zba s = (0, 62) := by
  unfold zba; rw [h]; dsimp only; rw [if_pos h1]
  cases h4 : zbn (s.drop 1) with
  | none => rfl
  | some n => dsimp only; rw [if_neg (h2 n h4)]
theorem zdc {s : Tx} (h : zbn s = none) (h1 : ¬ (1 < s.length ∧ (s.getD 0 0).toNat = 45)) (h2 : s.length < 3 ∨ 10 < s.length ∨ (s.getD 0 0).toNat ≠ 48 ∨ (s.getD 1 0).toNat ≠ 120) : zba s = (0, 62) := by
  unfold zba; rw [h]; dsimp only; rw [if_neg h1, if_pos h2]
theorem zjn {s : Tx} {n : Nat} (h : zbn s = none) (h1 : ¬ (1 < s.length ∧ (s.getD 0 0).toNat = 45)) (h2 : ¬ (s.length < 3 ∨ 10 < s.length ∨ (s.getD 0 0).toNat ≠ 48 ∨ (s.getD 1 0).toNat ≠ 120)) (h3 : zcJ (s.drop 2) 0 = some n) : zba s = ((n : Int), 0) := by
  unfold zba; rw [h]; dsimp only; rw [if_neg h1, if_neg h2, h3]
theorem zeC {s : Tx} (h : zbn s = none) (h1 : ¬ (1 < s.length ∧ (s.getD 0 0).toNat = 45)) (h2 : ¬ (s.length < 3 ∨ 10 < s.length ∨ (s.getD 0 0).toNat ≠ 48 ∨ (s.getD 1 0).toNat ≠ 120)) (h3 : zcJ (s.drop 2) 0 = none) : zba s = (0, 62) := by
  unfold zba; rw [h]; dsimp only; rw [if_neg h1, if_neg h2, h3]
theorem zrY {b : Bool} (h : (!b) = true) : ¬ b = true := by cases b <;> simp_all
theorem zrZ {b : Bool} (h : (!b) = false) : b = true := by cases b <;> simp_all
theorem zfy {α : Type} {o : Option α} (h : o.isSome = true) : ∃ a, o = some a := by cases o with
  | none => cases h
  | some a => exact ⟨a, rfl⟩
theorem zh3 {α : Type} {o : Option α} (h : o.isSome = false) : o = none := by cases o with
  | none => rfl
  | some a => cases h
def znD (s : Tx) (a : Nat) : Option (UInt8 × Nat) :=
  if (s.getD a 0).toNat < 32 ∨ 126 < (s.getD a 0).toNat ∨ (s.getD a 0).toNat = 34 then none
  else if (s.getD a 0).toNat ≠ 92 then some (s.getD a 0, 1)
  else if 0 < s.length - (a + 1) ∧ ((s.getD (a + 1) 0).toNat = 34 ∨ (s.getD (a + 1) 0).toNat = 92) then some (s.getD (a + 1) 0, 2)
  else if 2 < s.length - (a + 1) ∧ (s.getD (a + 1) 0).toNat = 120 ∧ zcY (s.getD (a + 2) 0) = true ∧ zcY (s.getD (a + 3) 0) = true then some (UInt8.ofNat (16 * zdO (s.getD (a + 2) 0) + zdO (s.getD (a + 3) 0)), 4)
  else none
theorem zeB {s : Tx} {a : Nat} (h : a < s.length) : zcs (s.drop a) = znD s a := by
  rw [zi9 h, zcs]
  have e0 : (s.drop (a + 1)).getD 0 0 = s.getD (a + 1) 0 := by rw [zdv]
  have e1 : (s.drop (a + 1)).getD 1 0 = s.getD (a + 2) 0 := by rw [zdv]
  have e2 : (s.drop (a + 1)).getD 2 0 = s.getD (a + 3) 0 := by rw [zdv]
  rw [e0, e1, e2, List.length_drop]; rfl
theorem zmm {s : Tx} {a : Nat} (h : a < s.length) (h1 : ¬ ((s.getD a 0).toNat < 32 ∨ 126 < (s.getD a 0).toNat ∨ (s.getD a 0).toNat = 34)) (h2 : (s.getD a 0).toNat ≠ 92) : zcs (s.drop a) = some (s.getD a 0, 1) := by
  rw [zeB h]; unfold znD; rw [if_neg h1, if_pos h2]
theorem zjm {s : Tx} {a : Nat} (h : a < s.length) (h2 : (s.getD a 0).toNat = 92) (h3 : a + 1 < s.length) (h4 : (s.getD (a + 1) 0).toNat = 34 ∨ (s.getD (a + 1) 0).toNat = 92) : zcs (s.drop a) = some (s.getD (a + 1) 0, 2) := by
  rw [zeB h]; unfold znD; rw [if_neg (by omega), if_neg (by omega), if_pos ⟨by omega, h4⟩]
theorem zhY {s : Tx} {a : Nat} (h : a < s.length) (h2 : (s.getD a 0).toNat = 92) (h3 : a + 3 < s.length) (h4 : (s.getD (a + 1) 0).toNat = 120) (h5 : zcY (s.getD (a + 2) 0) = true) (h6 : zcY (s.getD (a + 3) 0) = true) : zcs (s.drop a) = some (UInt8.ofNat (16 * zdO (s.getD (a + 2) 0) + zdO (s.getD (a + 3) 0)), 4) := by
  rw [zeB h]; unfold znD; rw [if_neg (by omega), if_neg (by omega), if_neg (by omega), if_pos ⟨by omega, h4, h5, h6⟩]
theorem zj2 {i : Nat} (h : i ≤ 8) : 16 ^ i ≤ 4294967296 := by
  have : 16 ^ i ≤ 16 ^ 8 := Nat.pow_le_pow_right Om h
  omega
end Go.SK
namespace Go.SK
open Go.RowKit
theorem St.ofBelow {w w' : World} (h : Below w.heap.size w w') : St w NoM [] [] w' := (St.init w).keep (Kept.of_below h)
theorem zfZ {P : Program} {g : FuncId} {args : Array Value} {w : World} {v : Value} (h : Calls P g args w fun e w' => e = .returned v ∧ w' = w) : Ret P g args w (fun u w' => u = v ∧ St w NoM [] [] w') :=
  Calls.mono h fun e w' ⟨he, hw⟩ => ⟨v, he, rfl, hw ▸ St.init w⟩
theorem zpS {P : Program} {g : FuncId} {args : Array Value} {w : World} {v : Value} (h : Calls P g args w fun e w' => e = .returned v ∧ Below w.heap.size w w') : Ret P g args w (fun u w' => u = v ∧ St w NoM [] [] w') :=
  Calls.mono h fun e w' ⟨he, hw⟩ => ⟨v, he, rfl, St.ofBelow hw⟩
theorem zgI (s : List UInt8) : (ByteArray.mk s.toArray).size = s.length := by simp [ByteArray.size]
theorem zvC (s : List UInt8) : (ByteArray.mk s.toArray).data.toList = s := rfl
section
variable {P : Program} {ty : TypeId} {ρ : Operand → Value} {w0 w : World} {C : Value → World → Prop} {M : Nat → Prop} {L D : List Res} {T T2 e : TypeId} {x y : Operand} {sz bytes : Nat} {zs : List Value}
def ifaceB : TypeDesc → Bool
  | .interface _ => true
  | _ => false
theorem zb5 {d : TypeDesc} {v : Value} (hT : TyF P T d sz bytes zs) (hd : ifaceB d = false) (hx : ρ x = v) (h : C (.iface T v) w) : Op1 P (.makeInterface T x) ty ρ w C := by
  refine zco (v := .iface T v) (w' := w) ?_ h
  simp only [execOp, hx, Instr.makeInterface, Sem.run_bind, hT.run_und, Result.andThen]
  cases d <;> first | rfl | cases hd
theorem zq5 {m : Array (String × TypeId)} (hT : TyF P T (.interface m) sz bytes zs) : (Op.equal T .nilIface .nilIface).run P w = .ok true w := by
  show (Op.equalIn (9999 + 1) T .nilIface .nilIface).run P w = _
  rw [Op.equalIn]
  simp [Sem.run_bind, hT.run_und, Result.andThen]
theorem zq6 {m : Array (String × TypeId)} {U : TypeId} {p : Value} (hT : TyF P T (.interface m) sz bytes zs) : (Op.equal T (.iface U p) .nilIface).run P w = .ok false w := by
  show (Op.equalIn (9999 + 1) T (.iface U p) .nilIface).run P w = _
  rw [Op.equalIn]
  simp [Sem.run_bind, hT.run_und, Result.andThen]
theorem zo4 {m : Array (String × TypeId)} (hT : TyF P T (.interface m) sz bytes zs) (hx : ρ x = .nilIface) (hy : ρ (.const .nilIface) = .nilIface) (h : C (.bool true) w) : Op1 P (.binOp .eql T x (.const .nilIface) T2) ty ρ w C := by
  refine zco (v := .bool true) (w' := w) ?_ h
  simp only [execOp, hx, hy, eqGuard]
  simp [binOp, zq5 hT, Result.andThen]
theorem zo5 {m : Array (String × TypeId)} {U : TypeId} {p : Value} (hT : TyF P T (.interface m) sz bytes zs) (hx : ρ x = .iface U p) (hy : ρ y = .nilIface) (h : C (.bool false) w) : Op1 P (.binOp .eql T x y T2) ty ρ w C := by
  refine zco (v := .bool false) (w' := w) ?_ h
  simp only [execOp, hx, hy, eqGuard]
  simp [binOp, zq6 hT, Result.andThen]
theorem zva {m : Array (String × TypeId)} (hT : TyF P T (.interface m) sz bytes zs) (hx : ρ x = .nilIface) (hy : ρ (.const .nilIface) = .nilIface) (h : C (.bool false) w) : Op1 P (.binOp .neq T x (.const .nilIface) T2) ty ρ w C := by
  refine zco (v := .bool false) (w' := w) ?_ h
  simp only [execOp, hx, hy, eqGuard]
  simp [binOp, zq5 hT, Result.andThen]
theorem zvb {m : Array (String × TypeId)} {U : TypeId} {p : Value} (hT : TyF P T (.interface m) sz bytes zs) (hx : ρ x = .iface U p) (hy : ρ y = .nilIface) (h : C (.bool true) w) : Op1 P (.binOp .neq T x y T2) ty ρ w C := by
  refine zco (v := .bool true) (w' := w) ?_ h
  simp only [execOp, hx, hy, eqGuard]
  simp [binOp, zq6 hT, Result.andThen]
theorem zo2 {S : TypeId} {s : List UInt8} {sz2 b2 es eb : Nat} {z2 ez : List Value} (hst : St w0 M L D w) (hS : TyF P S .string sz2 b2 z2) (hT : TyF P T (.slice e) sz bytes zs) (he : TyF P e (.int .u8) es eb ez) (hx : ρ x = str s)
    (h : ∀ (w' : World) (b cp : Nat), St w0 M (Res.rs (some ⟨b, 0, none⟩) s.length 1 (s.flatMap byC) :: L) D w' → C (.slice (some ⟨b, 0, none⟩) s.length cp) w') : Op1 P (.convert S T x) ty ρ w C := by
  have hr := Lib.run_convert_string_bytes (P := P) w S T e ⟨s.toArray⟩ hS.und hT.und he.und
  rw [zgI] at hr
  refine Inv.value (v := .slice (some ⟨w.heap.size, 0, none⟩) s.length (grownCap w s.length 0 e)) (w' := Lib.bytesWorld w e ⟨s.toArray⟩) ?_ (h (Lib.bytesWorld w e ⟨s.toArray⟩) w.heap.size (grownCap w s.length 0 e) (hst.push (Kept.of_below (Lib.bytesWorld_below _ _ _)) ?_ ?_))
  · simp only [execOp, hx, Sem.run_bind, str]
    rw [hr]; rfl
  · refine ⟨by rw [zei (es := 1) (fun _ => rfl)], .inr ⟨_, 0, rfl, fun i v hi => ?_⟩⟩
    rw [zg0] at hi
    have hi2 := (List.getElem?_eq_some_iff.1 hi)
    obtain ⟨h1, h2⟩ := hi2
    rw [List.length_map] at h1
    have := Lib.bytesWorld_cell w e ⟨s.toArray⟩ i (by rw [zgI]; exact h1)
    rw [Nat.zero_add, this, ← h2, zvC]; simp [List.getD, h1]
  · intro b ⟨_, o, ho⟩
    cases ho; exact Nat.le_refl _
end
theorem zpu {α : Type} [Inhabited α] (enc : α → Value) (w : World) (b off : Nat) (d : Array α) (n : Nat) {cs : Array Value} {T : TypeId} {fz : Nat × Nat} (h : w.heap[b]? = some (.cells cs T fz)) :
    Kept (· = b) w ((Sort.putRow enc w b off d).drewN n) ∧ ((Sort.putRow enc w b off d).drewN n).heap[b]? = some (.cells (Sort.putCells enc off d cs) T fz) := by
  refine ⟨⟨rfl, rfl, rfl, ?_, ?_⟩, ?_⟩
  · simp [Sort.putRow, Sort.mapBlock, World.drewN]
  · intro c hc hne
    simp [Sort.putRow, Sort.mapBlock, World.drewN, Array.getElem?_modify, show b ≠ c from fun e => hne e.symm]
  · simp [Sort.putRow, Sort.mapBlock, World.drewN, Array.getElem?_modify, h, Sort.onCells]
end Go.SK
namespace Go.SK
def puO (s : Tx) : Option Nat := match Lib.parseUintB 32 s with
  | .ok u => some u
  | _ => none
def puV (s : Tx) : Nat := match Lib.parseUintB 32 s with
  | .ok u => u
  | .range => 4294967295
  | _ => 0
theorem zwY (s : Tx) : puV s ≤ 4294967295 := by
  unfold puV
  cases h : Lib.parseUintB 32 s
  · exact Lib.parseUintB_le h
  · exact Nat.zero_le _
  · exact Nat.le_refl _
theorem zks : ∀ (s : Tx) (a n : Nat), zcl s a = some n → a ≤ n
  | [], a, n, h => by cases h; exact Nat.le_refl _
  | c :: r, a, n, h => by
    rw [zcl] at h; split at h
    · have := zks r _ n h; omega
    · cases h
theorem zlJ : ∀ (s : Tx) (a n : Nat), zcl s a = some n → n ≤ 4294967295 → Lib.parseUintM 4294967295 a s = .ok n
  | [], a, n, h, _ => by cases h; rfl
  | c :: r, a, n, h, hn => by
    rw [zcl] at h; split at h
    · rename_i hd
      have hb := zhk hd
      have hm := zks r _ n h
      rw [Lib.parseUintM, if_pos hb, if_neg (by omega), if_neg (by omega), Nat.mul_comm a 10]
      exact zlJ r _ n h hn
    · cases h
theorem zmF (c : UInt8) : ∀ (s : Tx) (a : Nat), zcl (s ++ [c]) a = (zcl s a).bind fun m => if zdT c = true then some (10 * m + (c.toNat - 48)) else none
  | [], a => by simp [zcl]
  | d :: r, a => by
    rw [List.cons_append, zcl, zcl]
    split
    · exact zmF c r _
    · rfl
theorem zwo (u : Nat) : zcl (Lib.decDigits u) 0 = some u := by
  induction u using Nat.strongRecOn with
  | _ u ih =>
    rw [Lib.decDigits]; split
    · rename_i h
      have h1 : (UInt8.ofNat (48 + u)).toNat = 48 + u := by rw [UInt8.toNat_ofNat']; omega
      rw [zcl, if_pos (show zdT _ = true from Dt (by omega)), zcl, h1]; congr 1; omega
    · rename_i h
      have h1 : (UInt8.ofNat (48 + u % 10)).toNat = 48 + u % 10 := by rw [UInt8.toNat_ofNat']; omega
      rw [zmF, ih (u / 10) (by omega), Option.bind_some, if_pos (show zdT _ = true from Dt (by omega)), h1]; congr 1; omega
theorem zn4 {a b : Tx} (h : 0 < a.length) : (a ++ b).getD 0 0 = a.getD 0 0 := by
  cases a with
  | nil => exact absurd h (Nat.lt_irrefl _)
  | cons c r => rfl
theorem zvE {p : Tx → Prop} (h0 : p []) (h1 : ∀ r c, p r → p (r ++ [c])) (s : Tx) : p s := by
  have : ∀ l : Tx, p l.reverse := fun l => by
    induction l with
    | nil => exact h0
    | cons c r ih => rw [List.reverse_cons]; exact h1 _ _ ih
  have h := this s.reverse
  rwa [List.reverse_reverse] at h
theorem zmH (u : Nat) : (Lib.decDigits u).length = Lib.nDigits u := by rw [Lib.decDigits_eq]; simp
theorem zws {u : Nat} : 0 < (Lib.decDigits u).length ∧ (((Lib.decDigits u).getD 0 0).toNat = 48 → u = 0) := by
  induction u using Nat.strongRecOn with
  | _ u ih =>
    rw [Lib.decDigits]; split
    · rename_i h
      have h1 : (UInt8.ofNat (48 + u)).toNat = 48 + u := by rw [UInt8.toNat_ofNat']; omega
      refine ⟨Nat.one_pos, fun h2 => ?_⟩
      have : ((([UInt8.ofNat (48 + u)] : List UInt8).getD 0 0)).toNat = 48 + u := h1
      omega
    · rename_i h
      obtain ⟨h1, h2⟩ := ih (u / 10) Om
      refine ⟨by rw [List.length_append]; omega, fun h3 => ?_⟩
      rw [zn4 h1] at h3
      have := h2 h3; omega
theorem zgV {u k : Nat} (h : u < 10 ^ (k + 1)) : Lib.nDigits u ≤ k + 1 := by
  induction k generalizing u with
  | zero => rw [Lib.nDigits_small (by simpa using h)]; exact Nat.le_refl _
  | succ k ih =>
    by_cases h10 : u < 10
    · rw [Lib.nDigits_small h10]; omega
    · rw [Lib.nDigits_big h10]
      have := ih (u := u / 10) (by rw [Nat.pow_succ] at h; omega)
      omega
theorem dec_of (s : Tx) : ∀ n, 0 < s.length → (1 < s.length → (s.getD 0 0).toNat ≠ 48) → zcl s 0 = some n → Lib.decDigits n = s ∧ ((s.getD 0 0).toNat ≠ 48 → 1 ≤ n) := by
  refine zvE (p := fun s => ∀ n, 0 < s.length → (1 < s.length → (s.getD 0 0).toNat ≠ 48) → zcl s 0 = some n → Lib.decDigits n = s ∧ ((s.getD 0 0).toNat ≠ 48 → 1 ≤ n)) ?_ ?_ s
  · intro n h; exact absurd h (Nat.lt_irrefl _)
  · intro r c ih n _ hz hd
    rw [zmF] at hd
    cases hr : zcl r 0 with
    | none => rw [hr] at hd; cases hd
    | some m =>
      rw [hr, Option.bind_some] at hd
      split at hd
      · rename_i hc
        have hb := zhk hc
        cases hd
        rcases Nat.eq_zero_or_pos r.length with h0 | h0
        · obtain rfl := List.length_eq_zero_iff.1 h0
          cases hr
          refine ⟨?_, fun h => ?_⟩
          · rw [Lib.decDigits, dif_pos (by omega), List.nil_append]
            congr 1
            apply UInt8.toNat_inj.1; rw [UInt8.toNat_ofNat']; omega
          · have : (([] ++ [c] : List UInt8).getD 0 0).toNat = c.toNat := rfl
            omega
        · have e0 : (r ++ [c]).getD 0 0 = r.getD 0 0 := zn4 h0
          have hz2 := hz (by rw [List.length_append]; simp; omega)
          rw [e0] at hz2
          obtain ⟨h1, h2⟩ := ih m h0 (fun _ => hz2) hr
          have h3 := h2 hz2
          refine ⟨?_, fun _ => by omega⟩
          rw [Lib.decDigits, dif_neg (by omega), show (10 * m + (c.toNat - 48)) / 10 = m by omega, h1]
          congr 2
          apply UInt8.toNat_inj.1; rw [UInt8.toNat_ofNat']; omega
      · cases hd
theorem zhV {s : Tx} {n : Nat} (h : zbn s = some n) : Lib.decDigits n = s ∧ puV s = n ∧ (puO s).isSome = true := by
  have hn := zj3 h
  by_cases hb : ziP s
  · have := (zfJ hb).2; rw [h] at this; cases this
  · cases hd : zcl s 0 with
    | none => have := (zfI hb hd).2; rw [h] at this; cases this
    | some m =>
      have e := zgT hb hd
      have hm : m = n := e.1.symm.trans hn.1
      subst hm
      unfold ziP at hb
      refine ⟨(dec_of s m Om Om hd).1, ?_⟩
      have hp : Lib.parseUintB 32 s = .ok m := by
        unfold Lib.parseUintB
        rw [if_neg (fun e => hb (.inl (by rw [e]; rfl)))]
        exact zlJ s 0 m hd Om
      unfold puV puO; rw [hp]; exact ⟨rfl, rfl⟩
theorem zfA {u : Nat} (h : u < 4294967296) : zbn (Lib.decDigits u) = some u := by
  have hl : ¬ ziP (Lib.decDigits u) := by
    unfold ziP
    have h1 := zws (u := u)
    have h2 := zmH u
    have h3 := zgV (u := u) (k := 9) Om
    intro hq
    rcases hq with hq | hq | ⟨hq, hz⟩
    · omega
    · omega
    · have := h1.2 hz; subst this
      rw [h2, Lib.nDigits_small (by omega)] at hq; omega
  rw [zeA, if_neg hl, zwo, Option.bind_some, if_pos h]
theorem zty {s : Tx} (h : (puO s).isSome = true) : (zbn s).isSome = decide (Lib.decDigits (puV s) = s) := by
  by_cases e : Lib.decDigits (puV s) = s
  · rw [Dt e]
    have := zfA (u := puV s) (by have := zwY s; omega)
    rw [e] at this; rw [this]; rfl
  · rw [Df e]
    cases hp : zbn s with
    | none => rfl
    | some n =>
      obtain ⟨h1, h2, _⟩ := zhV hp
      rw [h2] at e; exact absurd h1 e
theorem zvM {s : Tx} (h : (puO s).isSome = false) : (zbn s).isSome = false := by
  cases hp : zbn s with
  | none => rfl
  | some n => rw [(zhV hp).2.2] at h; cases h
end Go.SK
namespace Go.SK
open Go.RowKit
section
variable {P : Program} {ty : TypeId} {ρ : Operand → Value} {w : World} {C : Value → World → Prop} {T e : TypeId} {sz bytes es eb : Nat} {zs ez : List Value} {de : TypeDesc}
theorem zhl {x y : Operand} {b off k hi : Nat} {kk : IntKind} {a : Int} (hT : TyF P T (.array k e) sz bytes zs) (he : TyF P e de es eb ez) (hx : ρ x = .pointer (some ⟨b, off, none⟩)) (hy : ρ y = .int kk a) (ha : a = hi) (h1 : hi ≤ k)
    (h : C (.slice (some ⟨b, off, none⟩) hi k) w) : Op1 P (.slice T x none (some y) none) ty ρ w C := by
  subst ha
  refine zco (v := .slice (some ⟨b, off, none⟩) hi k) (w' := w) ?_ h
  simp [execOp, Instr.sliceAt, Instr.slice, Instr.sliceBounds, Instr.sliceBound, asIntOf, hx, hy, Sem.run_bind, hT.run_und, he.run_size, Result.andThen, h1, zdU, Instr.sureAddr]
end
theorem zxO : ∀ n < 256, 0 ≤ bits .or .u8 ((n : Nat) : Int) 32 ∧ bits .or .u8 ((n : Nat) : Int) 32 ≤ 255 ∧ (97 ≤ n ∧ n ≤ 102 → bits .or .u8 ((n : Nat) : Int) 32 = n) ∧ (65 ≤ n ∧ n ≤ 70 → bits .or .u8 ((n : Nat) : Int) 32 = n + 32) ∧ (¬ (48 ≤ n ∧ n ≤ 57) → ¬ (97 ≤ n ∧ n ≤ 102 ∨ 65 ≤ n ∧ n ≤ 70) → ¬ (97 ≤ bits .or .u8 ((n : Nat) : Int) 32 ∧ bits .or .u8 ((n : Nat) : Int) 32 ≤ 102)) := by decide +kernel
theorem zxU {u k : Nat} {d : Array UInt8} {v' : Nat} (h : Lib.FmtInv k u 0 v' d) (hk : k = Lib.nDigits u) (xs : List Value) (hx : k ≤ xs.length) :
    (Sort.putCells (fun (b : UInt8) => Value.int .u8 (b.toNat : Int)) 0 d xs.toArray).toList.take k = (Lib.decDigits u).flatMap byC := by
  have hs := h.size
  apply List.ext_getElem?
  intro j
  rw [zg0, Lib.decDigits_eq, ← hk]
  by_cases hj : j < k
  · rw [List.getElem?_take_of_lt hj]
    have hd := h.done j (Nat.zero_le _) hj
    rw [getElem!_pos d j (by omega)] at hd
    simp [Sort.putCells, hj, hs, show j < xs.length by omega, hd]
  · rw [List.getElem?_eq_none (by simp; omega), List.getElem?_eq_none (by simp; omega)]
end Go.SK
namespace Go.SK
theorem take1 {s : Tx} {c : UInt8} (h : s.take 1 = [c]) : 0 < s.length ∧ (s.getD 0 0).toNat = c.toNat := by
  cases s with
  | nil => cases h
  | cons a r => cases h; exact ⟨Nat.succ_pos _, rfl⟩
theorem zvB {s : Tx} {c : UInt8} (h : s.take 1 ≠ [c]) : s.length = 0 ∨ (s.getD 0 0).toNat ≠ c.toNat := by
  cases s with
  | nil => exact .inl rfl
  | cons a r => exact .inr fun e => h (by rw [List.take_succ_cons, List.take_zero]; exact congrArg (fun x => [x]) (UInt8.toNat_inj.1 e))
theorem zvA {s : Tx} {c d : UInt8} (h : s.take 2 = [c, d]) : 2 ≤ s.length ∧ (s.getD 0 0).toNat = c.toNat ∧ (s.getD 1 0).toNat = d.toNat := by
  match s, h with
  | a :: b :: r, h => cases h; exact ⟨by simp, rfl, rfl⟩
theorem zje {s : Tx} {c d : UInt8} (h : s.take 2 ≠ [c, d]) : s.length < 2 ∨ (s.getD 0 0).toNat ≠ c.toNat ∨ (s.getD 1 0).toNat ≠ d.toNat := by
  match s, h with
  | [], h => exact .inl (by simp)
  | [a], h => exact .inl (by simp)
  | a :: b :: r, h =>
    by_cases e : a = c
    · by_cases e2 : b = d
      · exact absurd (by rw [e, e2]; rfl) h
      · exact .inr (.inr fun e3 => e2 (UInt8.toNat_inj.1 e3))
    · exact .inr (.inl fun e3 => e (UInt8.toNat_inj.1 e3))
theorem zqu {s p : Tx} (h : Lib.hasPrefix s p = true) : Lib.trimPrefix s p = s.drop p.length ∧ s.take p.length = p := by
  refine ⟨by unfold Lib.trimPrefix; rw [if_pos h], ?_⟩
  unfold Lib.hasPrefix at h
  obtain ⟨t, rfl⟩ := List.isPrefixOf_iff_prefix.1 h
  simp
theorem ztd {s p : Tx} (h : Lib.hasPrefix s p = false) : Lib.trimPrefix s p = s ∧ s.take p.length ≠ p := by
  refine ⟨by unfold Lib.trimPrefix; rw [h]; rfl, fun e => ?_⟩
  unfold Lib.hasPrefix at h
  have hq : p ++ s.drop p.length = s := by
    have h2 := List.take_append_drop p.length s
    rw [e] at h2; exact h2
  have : p.isPrefixOf s = true := List.isPrefixOf_iff_prefix.2 ⟨s.drop p.length, hq⟩
  rw [h] at this; cases this
theorem ze9 {s : Tx} (h : zbn s = none) (h1 : 0 < s.length ∧ (s.getD 0 0).toNat = 45) (h2 : ∀ n, zbn (s.drop 1) = some n → ¬ (1 ≤ n ∧ n ≤ 2147483648)) : zba s = (0, 62) := by
  by_cases hl : 1 < s.length
  · exact zdt h ⟨hl, h1.2⟩ h2
  · exact zdc h (fun q => hl q.1) (.inl Om)
theorem zpw {s : Tx} {n : Nat} (h : zbn s = none) (h1 : 0 < s.length ∧ (s.getD 0 0).toNat = 45) (h2 : zbn (s.drop 1) = some n) (h3 : 1 ≤ n ∧ n ≤ 2147483648) : zba s = (4294967296 - (n : Int), 0) := by
  refine zlv h ⟨?_, h1.2⟩ h2 h3
  by_cases hl : 1 < s.length
  · exact hl
  · rw [List.drop_eq_nil_of_le (by omega)] at h2; cases h2
theorem zgp {s : Tx} (h : zbn s = none) (h1 : 2 ≤ s.length ∧ (s.getD 0 0).toNat = 48 ∧ (s.getD 1 0).toNat = 120) (h2 : 10 < s.length ∨ s.length = 2 ∨ zcJ (s.drop 2) 0 = none) : zba s = (0, 62) := by
  by_cases hb : s.length < 3 ∨ 10 < s.length ∨ (s.getD 0 0).toNat ≠ 48 ∨ (s.getD 1 0).toNat ≠ 120
  · exact zdc h Om hb
  · refine zeC h Om hb ?_
    rcases h2 with h2 | h2 | h2
    · omega
    · omega
    · exact h2
theorem zjt : ∀ (s : Tx) (a n : Nat), zcJ s a = some n → zch s = s ∧ Lib.indexByte s 95 = -1
  | [], a, n, _ => ⟨rfl, rfl⟩
  | c :: r, a, n, h => by
    rw [zcJ] at h; split at h
    · rename_i hc
      obtain ⟨h1, h2⟩ := zjt r _ n h
      have hb := (zd5 hc).1
      have hr : zji c = true := by
        unfold zji zfv zdT
        rw [Bool.or_eq_true, decide_eq_true_eq, decide_eq_true_eq]; omega
      refine ⟨?_, ?_⟩
      · unfold zch at h1 ⊢; rw [List.takeWhile_cons, if_pos hr, h1]
      · unfold Lib.indexByte
        have hne : (c == 95) = false := by
          rw [beq_eq_false_iff_ne]; intro e; subst e
          have : (95 : UInt8).toNat = 95 := rfl
          omega
        rw [hne, h2]; rfl
    · cases h
theorem zvR {m : Nat} (h : 1 ≤ m ∧ m ≤ 2147483648) : IntKind.u32.wrap (0 - (m : Int)) = 4294967296 - (m : Int) := by
  simp [IntKind.wrap, IntKind.signed, IntKind.bits]; omega
theorem ztZ : ∀ (s : Tx) (a n k : Nat), zcJ s a = some n → a < 16 ^ k → n < 16 ^ (k + s.length)
  | [], a, n, k, h, ha => by cases h; exact ha
  | c :: r, a, n, k, h, ha => by
    rw [zcJ] at h; split at h
    · rename_i hc
      have := ztZ r _ n (k + 1) h (zc5 ha (zd5 hc).2)
      rw [List.length_cons, show k + (r.length + 1) = k + 1 + r.length by omega]; exact this
    · cases h
theorem zt0 {s : Tx} {n : Nat} (h : zcJ s 0 = some n) (hl : s.length ≤ 8) : n ≤ 4294967295 := by
  have h1 := ztZ s 0 n 0 h De
  have h2 := zj2 (i := 0 + s.length) Om
  omega
end Go.SK
namespace Go.SK
open Go Go.Proofs Go.Shelf
def zkV : Go.Shelf.Ren := ⟨fun | 137 => 87 | 217 => 146 | 266 => 193 | n => n, fun | 9 => 9 | 5 => 5 | 3 => 3 | n => n, fun | n => n⟩
theorem zr5 : Go.Proofs.Lays.n137 Tryz.prog zkV := {
 mixed := by kernel_rfl
 f137 := Tryz.func87.trans (congrArg some Kr)
 f217 := Tryz.func146.trans (congrArg some Kr)
 f266 := Tryz.func193.trans (congrArg some Kr)
 t3 := Tryz.underlying3
 a3 := Tryz.isAgg3
 z3 := Tryz.sizeOf3
 v3 := Tryz.zeroValue3
 t5 := Tryz.underlying5
 a5 := Tryz.isAgg5
 z5 := Tryz.sizeOf5
 v5 := Tryz.zeroValue5
 t9 := Tryz.underlying9
 a9 := Tryz.isAgg9
 z9 := Tryz.sizeOf9
 v9 := Tryz.zeroValue9 }
def zkW : Go.Shelf.Ren := ⟨fun | 103 => 84 | 210 => 143 | 206 => 186 | n => n, fun | 9 => 9 | 4 => 4 | 24 => 146 | 3 => 3 | n => n, fun | n => n⟩
theorem zr6 : Go.Proofs.Lays.n103 Tryz.prog zkW := {
 mixed := by kernel_rfl
 f103 := Tryz.func84.trans (congrArg some Kr)
 f206 := Tryz.func186.trans (congrArg some Kr)
 f210 := Tryz.func143.trans (congrArg some Kr)
 t3 := Tryz.underlying3
 a3 := Tryz.isAgg3
 z3 := Tryz.sizeOf3
 v3 := Tryz.zeroValue3
 t4 := Tryz.underlying4
 a4 := Tryz.isAgg4
 z4 := Tryz.sizeOf4
 v4 := Tryz.zeroValue4
 t9 := Tryz.underlying9
 a9 := Tryz.isAgg9
 z9 := Tryz.sizeOf9
 v9 := Tryz.zeroValue9
 t24 := Tryz.underlying146
 a24 := Tryz.isAgg146
 z24 := Tryz.sizeOf146
 v24 := Tryz.zeroValue146 }
def zkT : Go.Shelf.Ren := ⟨fun | 283 => 195 | n => n, fun | 3 => 3 | 9 => 9 | 4 => 4 | n => n, fun | n => n⟩
theorem zr3 : Go.Proofs.Lays.n283 Tryz.prog zkT := {
 mixed := by kernel_rfl
 f283 := Tryz.func195.trans (congrArg some Kr)
 t3 := Tryz.underlying3
 a3 := Tryz.isAgg3
 z3 := Tryz.sizeOf3
 v3 := Tryz.zeroValue3
 t4 := Tryz.underlying4
 a4 := Tryz.isAgg4
 z4 := Tryz.sizeOf4
 v4 := Tryz.zeroValue4
 t9 := Tryz.underlying9
 a9 := Tryz.isAgg9
 z9 := Tryz.sizeOf9
 v9 := Tryz.zeroValue9 }
def zka : Go.Shelf.Ren := ⟨fun | 284 => 196 | 129 => 217 | 317 => 216 | 318 => 218 | n => n, fun | 53 => 149 | 3 => 3 | 212 => 278 | 0 => 0 | 4 => 4 | 46 => 170 | 5 => 5 | 9 => 9 | n => n, fun | 17 => 3 | n => n⟩
theorem zpy : Go.Proofs.LaysM.n284 Tryz.prog zka := {
 mixed := by kernel_rfl
 f129 := Tryz.func217.trans (congrArg some Kr)
 f284 := Tryz.func196.trans (congrArg some Kr)
 f317 := Tryz.func216.trans (congrArg some Kr)
 f318 := Tryz.func218.trans (congrArg some Kr)
 t0 := Tryz.underlying0
 a0 := Tryz.isAgg0
 z0 := Tryz.sizeOf0
 v0 := Tryz.zeroValue0
 t3 := Tryz.underlying3
 a3 := Tryz.isAgg3
 z3 := Tryz.sizeOf3
 v3 := Tryz.zeroValue3
 t4 := Tryz.underlying4
 a4 := Tryz.isAgg4
 z4 := Tryz.sizeOf4
 v4 := Tryz.zeroValue4
 t5 := Tryz.underlying5
 a5 := Tryz.isAgg5
 z5 := Tryz.sizeOf5
 v5 := Tryz.zeroValue5
 t9 := Tryz.underlying9
 a9 := Tryz.isAgg9
 z9 := Tryz.sizeOf9
 v9 := Tryz.zeroValue9
 t46 := Tryz.underlying170
 a46 := Tryz.isAgg170
 z46 := Tryz.sizeOf170
 v46 := Tryz.zeroValue170
 t53 := Tryz.underlying149
 a53 := Tryz.isAgg149
 z53 := Tryz.sizeOf149
 v53 := Tryz.zeroValue149
 t212 := Tryz.underlying278
 a212 := Tryz.isAgg278
 z212 := Tryz.sizeOf278
 v212 := Tryz.zeroValue278
 g17 := by kernel_rfl
 i0 := by kernel_rfl
 i3 := by kernel_rfl
 i4 := by kernel_rfl
 i5 := by kernel_rfl
 i9 := by kernel_rfl
 i46 := by kernel_rfl
 i53 := by kernel_rfl
 i212 := by kernel_rfl
 m17 := by kernel_rfl }
def zkS : Go.Shelf.Ren := ⟨fun | 285 => 197 | n => n, fun | 37 => 38 | 53 => 149 | 3 => 3 | 4 => 4 | 51 => 22 | 9 => 9 | 5 => 5 | 0 => 0 | n => n, fun | n => n⟩
theorem zr2 : Go.Proofs.Lays.n285 Tryz.prog zkS := {
 mixed := by kernel_rfl
 f285 := Tryz.func197.trans (congrArg some Kr)
 t0 := Tryz.underlying0
 a0 := Tryz.isAgg0
 z0 := Tryz.sizeOf0
 v0 := Tryz.zeroValue0
 t3 := Tryz.underlying3
 a3 := Tryz.isAgg3
 z3 := Tryz.sizeOf3
 v3 := Tryz.zeroValue3
 t4 := Tryz.underlying4
 a4 := Tryz.isAgg4
 z4 := Tryz.sizeOf4
 v4 := Tryz.zeroValue4
 t5 := Tryz.underlying5
 a5 := Tryz.isAgg5
 z5 := Tryz.sizeOf5
 v5 := Tryz.zeroValue5
 t9 := Tryz.underlying9
 a9 := Tryz.isAgg9
 z9 := Tryz.sizeOf9
 v9 := Tryz.zeroValue9
 t37 := Tryz.underlying38
 a37 := Tryz.isAgg38
 z37 := Tryz.sizeOf38
 v37 := Tryz.zeroValue38
 t51 := Tryz.underlying22
 a51 := Tryz.isAgg22
 z51 := Tryz.sizeOf22
 v51 := Tryz.zeroValue22
 t53 := Tryz.underlying149
 a53 := Tryz.isAgg149
 z53 := Tryz.sizeOf149
 v53 := Tryz.zeroValue149 }
def zkb : Go.Shelf.Ren := ⟨fun | 245 => 145 | 279 => 189 | 280 => 190 | 281 => 191 | 282 => 192 | 316 => 213 | 171 => 215 | 205 => 214 | 243 => 226 | 246 => 229 | 283 => 195 | 284 => 196 | 285 => 197 | 286 => 198 | 129 => 217 | 317 => 216 | 318 => 218 | 319 => 219 | 320 => 220 | 337 => 227 | 338 => 228 | n => n, fun | 9 => 9 | 3 => 3 | 75 => 151 | 167 => 251 | 4 => 4 | 168 => 252 | 210 => 275 | 37 => 38 | 0 => 0 | 127 => 169 | 145 => 290 | 143 => 288 | 2 => 2 | 171 => 258 | 53 => 149 | 5 => 5 | 173 => 261 | 212 => 278 | 51 => 22 | 20 => 20 | 213 => 279 | 46 => 170 | 232 => 293 | 233 => 294 | 80 => 97 | n => n, fun | 15 => 1 | 16 => 2 | 17 => 3 | 18 => 4 | 19 => 5 | n => n⟩
theorem zpz : Go.Proofs.LaysC.n245 Tryz.prog zkb := {
 mixed := by kernel_rfl
 f129 := Tryz.func217.trans (congrArg some Kr)
 f171 := Tryz.func215.trans (congrArg some Kr)
 f205 := Tryz.func214.trans (congrArg some Kr)
 f243 := Tryz.func226.trans (congrArg some Kr)
 f245 := Tryz.func145.trans (congrArg some Kr)
 f246 := Tryz.func229.trans (congrArg some Kr)
 f279 := Tryz.func189.trans (congrArg some Kr)
 f280 := Tryz.func190.trans (congrArg some Kr)
 f281 := Tryz.func191.trans (congrArg some Kr)
 f282 := Tryz.func192.trans (congrArg some Kr)
 f283 := Tryz.func195.trans (congrArg some Kr)
 f284 := Tryz.func196.trans (congrArg some Kr)
 f285 := Tryz.func197.trans (congrArg some Kr)
 f286 := Tryz.func198.trans (congrArg some Kr)
 f316 := Tryz.func213.trans (congrArg some Kr)
 f317 := Tryz.func216.trans (congrArg some Kr)
 f318 := Tryz.func218.trans (congrArg some Kr)
 f319 := Tryz.func219.trans (congrArg some Kr)
 f320 := Tryz.func220.trans (congrArg some Kr)
 f337 := Tryz.func227.trans (congrArg some Kr)
 f338 := Tryz.func228.trans (congrArg some Kr)
 t0 := Tryz.underlying0
 a0 := Tryz.isAgg0
 z0 := Tryz.sizeOf0
 v0 := Tryz.zeroValue0
 t2 := Tryz.underlying2
 a2 := Tryz.isAgg2
 z2 := Tryz.sizeOf2
 v2 := Tryz.zeroValue2
 t3 := Tryz.underlying3
 a3 := Tryz.isAgg3
 z3 := Tryz.sizeOf3
 v3 := Tryz.zeroValue3
 t4 := Tryz.underlying4
 a4 := Tryz.isAgg4
 z4 := Tryz.sizeOf4
 v4 := Tryz.zeroValue4
 t5 := Tryz.underlying5
 a5 := Tryz.isAgg5
 z5 := Tryz.sizeOf5
 v5 := Tryz.zeroValue5
 t9 := Tryz.underlying9
 a9 := Tryz.isAgg9
 z9 := Tryz.sizeOf9
 v9 := Tryz.zeroValue9
 t20 := Tryz.underlying20
 a20 := Tryz.isAgg20
 z20 := Tryz.sizeOf20
 v20 := Tryz.zeroValue20
 t37 := Tryz.underlying38
 a37 := Tryz.isAgg38
 z37 := Tryz.sizeOf38
 v37 := Tryz.zeroValue38
 t46 := Tryz.underlying170
 a46 := Tryz.isAgg170
 z46 := Tryz.sizeOf170
 v46 := Tryz.zeroValue170
 t51 := Tryz.underlying22
 a51 := Tryz.isAgg22
 z51 := Tryz.sizeOf22
 v51 := Tryz.zeroValue22
 t53 := Tryz.underlying149
 a53 := Tryz.isAgg149
 z53 := Tryz.sizeOf149
 v53 := Tryz.zeroValue149
 t75 := Tryz.underlying151
 a75 := Tryz.isAgg151
 z75 := Tryz.sizeOf151
 v75 := Tryz.zeroValue151
 t127 := Tryz.underlying169
 a127 := Tryz.isAgg169
 z127 := Tryz.sizeOf169
 v127 := Tryz.zeroValue169
 t143 := Tryz.underlying288
 a143 := Tryz.isAgg288
 z143 := Tryz.sizeOf288
 v143 := Tryz.zeroValue288
 t145 := Tryz.underlying290
 a145 := Tryz.isAgg290
 z145 := Tryz.sizeOf290
 v145 := Tryz.zeroValue290
 t167 := Tryz.underlying251
 a167 := Tryz.isAgg251
 z167 := Tryz.sizeOf251
 v167 := Tryz.zeroValue251
 t168 := Tryz.underlying252
 a168 := Tryz.isAgg252
 z168 := Tryz.sizeOf252
 v168 := Tryz.zeroValue252
 t171 := Tryz.underlying258
 a171 := Tryz.isAgg258
 z171 := Tryz.sizeOf258
 v171 := Tryz.zeroValue258
 t173 := Tryz.underlying261
 a173 := Tryz.isAgg261
 z173 := Tryz.sizeOf261
 v173 := Tryz.zeroValue261
 t210 := Tryz.underlying275
 a210 := Tryz.isAgg275
 z210 := Tryz.sizeOf275
 v210 := Tryz.zeroValue275
 t212 := Tryz.underlying278
 a212 := Tryz.isAgg278
 z212 := Tryz.sizeOf278
 v212 := Tryz.zeroValue278
 t213 := Tryz.underlying279
 a213 := Tryz.isAgg279
 z213 := Tryz.sizeOf279
 t232 := Tryz.underlying293
 a232 := Tryz.isAgg293
 z232 := Tryz.sizeOf293
 v232 := Tryz.zeroValue293
 t233 := Tryz.underlying294
 a233 := Tryz.isAgg294
 z233 := Tryz.sizeOf294
 v233 := Tryz.zeroValue294
 g15 := by kernel_rfl
 g16 := by kernel_rfl
 g17 := by kernel_rfl
 g18 := by kernel_rfl
 g19 := by kernel_rfl
 t80 := Tryz.underlying97
 a80 := Tryz.isAgg97
 z80 := Tryz.sizeOf97
 v80 := Tryz.zeroValue97
 i0 := by kernel_rfl
 i2 := by kernel_rfl
 i3 := by kernel_rfl
 i4 := by kernel_rfl
 i5 := by kernel_rfl
 i9 := by kernel_rfl
 i20 := by kernel_rfl
 i37 := by kernel_rfl
 i46 := by kernel_rfl
 i51 := by kernel_rfl
 i53 := by kernel_rfl
 i75 := by kernel_rfl
 i80 := by kernel_rfl
 i127 := by kernel_rfl
 i143 := by kernel_rfl
 i145 := by kernel_rfl
 i167 := by kernel_rfl
 i168 := by kernel_rfl
 i171 := by kernel_rfl
 i173 := by kernel_rfl
 i210 := by kernel_rfl
 i212 := by kernel_rfl
 i232 := by kernel_rfl
 i233 := by kernel_rfl
 m15 := by kernel_rfl
 m16 := by kernel_rfl
 m17 := by kernel_rfl
 m18 := by kernel_rfl
 m19 := by kernel_rfl
 c0 := by kernel_rfl
 c2 := by kernel_rfl
 c3 := by kernel_rfl
 c4 := by kernel_rfl
 c5 := by kernel_rfl
 c9 := by kernel_rfl
 c20 := by kernel_rfl
 c37 := by kernel_rfl
 c46 := by kernel_rfl
 c51 := by kernel_rfl
 c53 := by kernel_rfl
 c75 := by kernel_rfl
 c80 := by kernel_rfl
 c127 := by kernel_rfl
 c143 := by kernel_rfl
 c145 := by kernel_rfl
 c167 := by kernel_rfl
 c168 := by kernel_rfl
 c171 := by kernel_rfl
 c173 := by kernel_rfl
 c210 := by kernel_rfl
 c212 := by kernel_rfl
 c213 := by kernel_rfl
 c232 := by kernel_rfl
 c233 := by kernel_rfl }
def zkR : Go.Shelf.Ren := ⟨fun | 321 => 187 | n => n, fun | 5 => 5 | n => n, fun | n => n⟩
theorem zr1 : Go.Proofs.Lays.n321 Tryz.prog zkR := {
 mixed := by kernel_rfl
 f321 := Tryz.func187.trans (congrArg some Kr)
 t5 := Tryz.underlying5
 a5 := Tryz.isAgg5
 z5 := Tryz.sizeOf5
 v5 := Tryz.zeroValue5 }
def zj9 : Go.Shelf.Ren := ⟨fun | 14 => 86 | 16 => 144 | 17 => 145 | 19 => 187 | 20 => 188 | 21 => 189 | 22 => 190 | 23 => 191 | 24 => 192 | 25 => 213 | 27 => 215 | 26 => 214 | 28 => 226 | 29 => 229 | 30 => 195 | 31 => 196 | 32 => 197 | 33 => 198 | 35 => 217 | 34 => 216 | 36 => 218 | 37 => 219 | 38 => 220 | 39 => 227 | 40 => 228 | n => n, fun | 9 => 9 | 3 => 3 | 22 => 149 | 24 => 151 | 25 => 152 | 4 => 4 | 34 => 251 | 5 => 5 | 36 => 170 | 37 => 38 | 0 => 0 | 39 => 252 | 21 => 21 | 44 => 275 | 47 => 169 | 50 => 290 | 48 => 288 | 2 => 2 | 52 => 258 | 55 => 261 | 59 => 278 | 60 => 22 | 20 => 20 | 61 => 279 | 65 => 293 | 66 => 294 | 67 => 97 | n => n, fun | 0 => 1 | 1 => 2 | 2 => 3 | 3 => 4 | 4 => 5 | n => n⟩
theorem zhq : Go.Proofs.LaysPu.n14 Tryz.prog zj9 := {
 mixed := by kernel_rfl
 f14 := Tryz.func86.trans (congrArg some Kr)
 f16 := Tryz.func144.trans (congrArg some Kr)
 f17 := Tryz.func145.trans (congrArg some Kr)
 f19 := Tryz.func187.trans (congrArg some Kr)
 f20 := Tryz.func188.trans (congrArg some Kr)
 f21 := Tryz.func189.trans (congrArg some Kr)
 f22 := Tryz.func190.trans (congrArg some Kr)
 f23 := Tryz.func191.trans (congrArg some Kr)
 f24 := Tryz.func192.trans (congrArg some Kr)
 f25 := Tryz.func213.trans (congrArg some Kr)
 f26 := Tryz.func214.trans (congrArg some Kr)
 f27 := Tryz.func215.trans (congrArg some Kr)
 f28 := Tryz.func226.trans (congrArg some Kr)
 f29 := Tryz.func229.trans (congrArg some Kr)
 f30 := Tryz.func195.trans (congrArg some Kr)
 f31 := Tryz.func196.trans (congrArg some Kr)
 f32 := Tryz.func197.trans (congrArg some Kr)
 f33 := Tryz.func198.trans (congrArg some Kr)
 f34 := Tryz.func216.trans (congrArg some Kr)
 f35 := Tryz.func217.trans (congrArg some Kr)
 f36 := Tryz.func218.trans (congrArg some Kr)
 f37 := Tryz.func219.trans (congrArg some Kr)
 f38 := Tryz.func220.trans (congrArg some Kr)
 f39 := Tryz.func227.trans (congrArg some Kr)
 f40 := Tryz.func228.trans (congrArg some Kr)
 t0 := Tryz.underlying0
 a0 := Tryz.isAgg0
 z0 := Tryz.sizeOf0
 v0 := Tryz.zeroValue0
 i0 := by kernel_rfl
 t2 := Tryz.underlying2
 a2 := Tryz.isAgg2
 z2 := Tryz.sizeOf2
 v2 := Tryz.zeroValue2
 i2 := by kernel_rfl
 t3 := Tryz.underlying3
 a3 := Tryz.isAgg3
 z3 := Tryz.sizeOf3
 v3 := Tryz.zeroValue3
 i3 := by kernel_rfl
 t4 := Tryz.underlying4
 a4 := Tryz.isAgg4
 z4 := Tryz.sizeOf4
 v4 := Tryz.zeroValue4
 i4 := by kernel_rfl
 t5 := Tryz.underlying5
 a5 := Tryz.isAgg5
 z5 := Tryz.sizeOf5
 v5 := Tryz.zeroValue5
 i5 := by kernel_rfl
 t9 := Tryz.underlying9
 a9 := Tryz.isAgg9
 z9 := Tryz.sizeOf9
 v9 := Tryz.zeroValue9
 i9 := by kernel_rfl
 t20 := Tryz.underlying20
 a20 := Tryz.isAgg20
 z20 := Tryz.sizeOf20
 v20 := Tryz.zeroValue20
 i20 := by kernel_rfl
 t21 := Tryz.underlying21
 a21 := Tryz.isAgg21
 z21 := Tryz.sizeOf21
 v21 := Tryz.zeroValue21
 i21 := by kernel_rfl
 t22 := Tryz.underlying149
 a22 := Tryz.isAgg149
 z22 := Tryz.sizeOf149
 v22 := Tryz.zeroValue149
 i22 := by kernel_rfl
 t24 := Tryz.underlying151
 a24 := Tryz.isAgg151
 z24 := Tryz.sizeOf151
 v24 := Tryz.zeroValue151
 i24 := by kernel_rfl
 t25 := Tryz.underlying152
 a25 := Tryz.isAgg152
 z25 := Tryz.sizeOf152
 v25 := Tryz.zeroValue152
 i25 := by kernel_rfl
 t34 := Tryz.underlying251
 a34 := Tryz.isAgg251
 z34 := Tryz.sizeOf251
 v34 := Tryz.zeroValue251
 i34 := by kernel_rfl
 c34 := by kernel_rfl
 t36 := Tryz.underlying170
 a36 := Tryz.isAgg170
 z36 := Tryz.sizeOf170
 v36 := Tryz.zeroValue170
 i36 := by kernel_rfl
 t37 := Tryz.underlying38
 a37 := Tryz.isAgg38
 z37 := Tryz.sizeOf38
 v37 := Tryz.zeroValue38
 i37 := by kernel_rfl
 t39 := Tryz.underlying252
 a39 := Tryz.isAgg252
 z39 := Tryz.sizeOf252
 v39 := Tryz.zeroValue252
 i39 := by kernel_rfl
 t44 := Tryz.underlying275
 a44 := Tryz.isAgg275
 z44 := Tryz.sizeOf275
 v44 := Tryz.zeroValue275
 i44 := by kernel_rfl
 t47 := Tryz.underlying169
 a47 := Tryz.isAgg169
 z47 := Tryz.sizeOf169
 v47 := Tryz.zeroValue169
 i47 := by kernel_rfl
 t48 := Tryz.underlying288
 a48 := Tryz.isAgg288
 z48 := Tryz.sizeOf288
 v48 := Tryz.zeroValue288
 i48 := by kernel_rfl
 t50 := Tryz.underlying290
 a50 := Tryz.isAgg290
 z50 := Tryz.sizeOf290
 v50 := Tryz.zeroValue290
 i50 := by kernel_rfl
 t52 := Tryz.underlying258
 a52 := Tryz.isAgg258
 z52 := Tryz.sizeOf258
 v52 := Tryz.zeroValue258
 i52 := by kernel_rfl
 t55 := Tryz.underlying261
 a55 := Tryz.isAgg261
 z55 := Tryz.sizeOf261
 v55 := Tryz.zeroValue261
 i55 := by kernel_rfl
 t59 := Tryz.underlying278
 a59 := Tryz.isAgg278
 z59 := Tryz.sizeOf278
 v59 := Tryz.zeroValue278
 i59 := by kernel_rfl
 t60 := Tryz.underlying22
 a60 := Tryz.isAgg22
 z60 := Tryz.sizeOf22
 v60 := Tryz.zeroValue22
 i60 := by kernel_rfl
 t61 := Tryz.underlying279
 a61 := Tryz.isAgg279
 z61 := Tryz.sizeOf279
 t65 := Tryz.underlying293
 a65 := Tryz.isAgg293
 z65 := Tryz.sizeOf293
 v65 := Tryz.zeroValue293
 i65 := by kernel_rfl
 t66 := Tryz.underlying294
 a66 := Tryz.isAgg294
 z66 := Tryz.sizeOf294
 v66 := Tryz.zeroValue294
 i66 := by kernel_rfl
 t67 := Tryz.underlying97
 a67 := Tryz.isAgg97
 z67 := Tryz.sizeOf97
 v67 := Tryz.zeroValue97
 i67 := by kernel_rfl
 g0 := by kernel_rfl
 m0 := by kernel_rfl
 g1 := by kernel_rfl
 m1 := by kernel_rfl
 g2 := by kernel_rfl
 m2 := by kernel_rfl
 g3 := by kernel_rfl
 m3 := by kernel_rfl
 g4 := by kernel_rfl
 m4 := by kernel_rfl }
end Go.SK
namespace Go.SK
open Go Go.Proofs
theorem ty5 : TyF Tryz.prog 5 (.int .u8) 1 1 [.int .u8 0] := zbK Kr Kr
theorem zbF : TyF Tryz.prog 149 (.int .u64) 1 8 [.int .u64 0] := zbK Kr Kr
end Go.SK
namespace Go.SK
open Go Go.Proofs
open Go.RowKit
theorem zeL (c : UInt8) (w : World) : Ret Tryz.prog 79 #[.int .u8 (c.toNat : Int)] w (fun v w' => v = .int .i64 (zfx c) ∧ St w NoM [] [] w') := by
 refine zav (args := [.int .u8 (c.toNat : Int)]) Tryz.func79 rfl rfl rfl ?_
 have hst := St.init w
 refine SR <| AI rfl <| NL <| SQ <| zao <| SQ <| SR <| MC rfl <| CN <| zak rfl rfl <| AB rfl <| NL <| zab rfl (fun g1 => ?_) (fun g1 => ?_)
 ·refine zaf <| zax (Vb (Dt g1)) <| SR <| AI rfl <| NL <| zah Tryz.func79 rfl (TP (v := .int .i64 _) rfl) <| ⟨Vi ?_, hst.pure⟩
  first | exact (zeV Om).symm | exact (zeU Om Om).symm | exact (zeT Om).symm | exact (zeW Om Om Om).symm
 refine SR <| MC rfl <| CN <| zak rfl rfl <| AB rfl <| NL <| zab rfl (fun g2 => ?_) (fun g2 => ?_)
 ·refine zaf <| zax (Vb (Dt g2)) <| SR <| AI rfl <| NL <| zah Tryz.func79 rfl (TP (v := .int .i64 _) rfl) <| ⟨Vi ?_, hst.pure⟩
  first | exact (zeV Om).symm | exact (zeU Om Om).symm | exact (zeT Om).symm | exact (zeW Om Om Om).symm
 refine RG <| MC rfl <| CN <| zak rfl rfl <| AB rfl <| NL <| zab rfl (fun g3 => ?_) (fun g3 => ?_)
 ·refine SR <| AI rfl <| NL <| zah Tryz.func79 rfl (TP (v := .int .i64 _) rfl) <| ⟨Vi ?_, hst.pure⟩
  first | exact (zeV Om).symm | exact (zeU Om Om).symm | exact (zeT Om).symm | exact (zeW Om Om Om).symm
 refine SQ <| SR <| MC rfl <| CN <| zbo rfl rfl <| MB rfl <| zan (d := 13) rfl (fun g4 => ?_) (fun g4 => ?_)
 ·refine TK (t := 13) rfl (Vb (Dt g4)) <| zad (v := .int .u8 _) rfl <| TK (t := 13) rfl (Vb (Dt g4)) <| zbI rfl rfl <| CN <| zap (u := .bool _) (Vb (Dt g4)) rfl <| AB rfl <| NL <| zab rfl (fun g5 => ?_) (fun g5 => ?_)
  ·refine zaf <| zax (Vb (Dt g5)) <| SR <| AI rfl <| NL <| zah Tryz.func79 rfl (TP (v := .int .i64 _) rfl) <| ⟨Vi ?_, hst.pure⟩
   first | exact (zeV Om).symm | exact (zeU Om Om).symm | exact (zeT Om).symm | exact (zeW Om Om Om).symm
  refine SR <| MC rfl <| CN <| zbo rfl rfl <| MB rfl <| zan (d := 19) rfl (fun g6 => ?_) (fun g6 => ?_)
  ·refine TK (t := 19) rfl (Vb (Dt g6)) <| zad (v := .int .u8 _) rfl <| TK (t := 19) rfl (Vb (Dt g6)) <| zbI rfl rfl <| CN <| zap (u := .bool _) (Vb (Dt g6)) rfl <| AB rfl <| NL <| zaj [(0, .int .u8 _), (10, .bool _)] E2 fun f => zab rfl (fun g7 => ?_) (fun g7 => ?_)
   ·refine zaf <| zax (Vb (Dt g7)) <| SR <| AI rfl <| NL <| zah Tryz.func79 rfl (TP (v := .int .i64 _) rfl) <| ⟨Vi ?_, hst.pure⟩
    first | exact (zeV Om).symm | exact (zeU Om Om).symm | exact (zeT Om).symm | exact (zeW Om Om Om).symm
   refine RG <| MC rfl <| CN <| zak rfl rfl <| AB rfl <| NL <| zab rfl (fun g8 => ?_) (fun g8 => ?_)
   ·refine SR <| AI rfl <| NL <| zah Tryz.func79 rfl (TP (v := .int .i64 _) rfl) <| ⟨Vi ?_, hst.pure⟩
    first | exact (zeV Om).symm | exact (zeU Om Om).symm | exact (zeT Om).symm | exact (zeW Om Om Om).symm
   refine SR <| MC rfl <| CN <| zbo rfl rfl <| MB rfl <| zan (d := 28) rfl (fun g9 => ?_) (fun g9 => ?_)
   ·refine TK (t := 28) rfl (Vb (Dt g9)) <| zad (v := .int .u8 _) rfl <| TK (t := 28) rfl (Vb (Dt g9)) <| zbI rfl rfl <| CN <| zap (u := .bool _) (Vb (Dt g9)) rfl <| AB rfl <| NL <| zab rfl (fun g10 => ?_) (fun g10 => ?_)
    ·refine SR <| AI rfl <| NL <| zah Tryz.func79 rfl (TP (v := .int .i64 _) rfl) <| ⟨Vi ?_, hst.pure⟩
     first | exact (zeV Om).symm | exact (zeU Om Om).symm | exact (zeT Om).symm | exact (zeW Om Om Om).symm
    refine zaf <| zam <| SR <| AI rfl <| NL <| zah Tryz.func79 rfl (TP (v := .int .i64 _) rfl) <| ⟨Vi ?_, hst.pure⟩
    first | exact (zeV Om).symm | exact (zeU Om Om).symm | exact (zeT Om).symm | exact (zeW Om Om Om).symm
   refine OM (t := 28) rfl (Vb (Df g9)) rfl <| OM (t := 28) rfl (Vb (Df g9)) rfl <| CN <| zaq (u := .bool _) (Vb (Df g9)) rfl <| AB rfl <| NL <| zat (Vb (rfl : false = _)) <| zaf <| zam <| SR <| AI rfl <| NL <| zah Tryz.func79 rfl (TP (v := .int .i64 _) rfl) <| ⟨Vi ?_, hst.pure⟩
   first | exact (zeV Om).symm | exact (zeU Om Om).symm | exact (zeT Om).symm | exact (zeW Om Om Om).symm
  refine OM (t := 19) rfl (Vb (Df g6)) rfl <| OM (t := 19) rfl (Vb (Df g6)) rfl <| CN <| zaq (u := .bool _) (Vb (Df g6)) rfl <| AB rfl <| NL <| zaj [(0, .int .u8 _), (10, .bool _)] E2 fun f => zat (Vb (rfl : false = _)) <| RG <| MC rfl <| CN <| zak rfl rfl <| AB rfl <| NL <| zab rfl (fun g11 => ?_) (fun g11 => ?_)
  ·refine SR <| AI rfl <| NL <| zah Tryz.func79 rfl (TP (v := .int .i64 _) rfl) <| ⟨Vi ?_, hst.pure⟩
   first | exact (zeV Om).symm | exact (zeU Om Om).symm | exact (zeT Om).symm | exact (zeW Om Om Om).symm
  refine SR <| MC rfl <| CN <| zbo rfl rfl <| MB rfl <| zan (d := 28) rfl (fun g12 => ?_) (fun g12 => ?_)
  ·refine TK (t := 28) rfl (Vb (Dt g12)) <| zad (v := .int .u8 _) rfl <| TK (t := 28) rfl (Vb (Dt g12)) <| zbI rfl rfl <| CN <| zap (u := .bool _) (Vb (Dt g12)) rfl <| AB rfl <| NL <| zab rfl (fun g13 => ?_) (fun g13 => ?_)
   ·refine SR <| AI rfl <| NL <| zah Tryz.func79 rfl (TP (v := .int .i64 _) rfl) <| ⟨Vi ?_, hst.pure⟩
    first | exact (zeV Om).symm | exact (zeU Om Om).symm | exact (zeT Om).symm | exact (zeW Om Om Om).symm
   refine zaf <| zam <| SR <| AI rfl <| NL <| zah Tryz.func79 rfl (TP (v := .int .i64 _) rfl) <| ⟨Vi ?_, hst.pure⟩
   first | exact (zeV Om).symm | exact (zeU Om Om).symm | exact (zeT Om).symm | exact (zeW Om Om Om).symm
  refine OM (t := 28) rfl (Vb (Df g12)) rfl <| OM (t := 28) rfl (Vb (Df g12)) rfl <| CN <| zaq (u := .bool _) (Vb (Df g12)) rfl <| AB rfl <| NL <| zat (Vb (rfl : false = _)) <| zaf <| zam <| SR <| AI rfl <| NL <| zah Tryz.func79 rfl (TP (v := .int .i64 _) rfl) <| ⟨Vi ?_, hst.pure⟩
  first | exact (zeV Om).symm | exact (zeU Om Om).symm | exact (zeT Om).symm | exact (zeW Om Om Om).symm
 refine OM (t := 13) rfl (Vb (Df g4)) rfl <| OM (t := 13) rfl (Vb (Df g4)) rfl <| CN <| zaq (u := .bool _) (Vb (Df g4)) rfl <| AB rfl <| NL <| zat (Vb (rfl : false = _)) <| SR <| MC rfl <| CN <| zbo rfl rfl <| MB rfl <| zan (d := 19) rfl (fun g14 => ?_) (fun g14 => ?_)
 ·refine TK (t := 19) rfl (Vb (Dt g14)) <| zad (v := .int .u8 _) rfl <| TK (t := 19) rfl (Vb (Dt g14)) <| zbI rfl rfl <| CN <| zap (u := .bool _) (Vb (Dt g14)) rfl <| AB rfl <| NL <| zaj [(0, .int .u8 _), (10, .bool _)] E2 fun f => zab rfl (fun g15 => ?_) (fun g15 => ?_)
  ·refine zaf <| zax (Vb (Dt g15)) <| SR <| AI rfl <| NL <| zah Tryz.func79 rfl (TP (v := .int .i64 _) rfl) <| ⟨Vi ?_, hst.pure⟩
   first | exact (zeV Om).symm | exact (zeU Om Om).symm | exact (zeT Om).symm | exact (zeW Om Om Om).symm
  refine RG <| MC rfl <| CN <| zak rfl rfl <| AB rfl <| NL <| zab rfl (fun g16 => ?_) (fun g16 => ?_)
  ·refine SR <| AI rfl <| NL <| zah Tryz.func79 rfl (TP (v := .int .i64 _) rfl) <| ⟨Vi ?_, hst.pure⟩
   first | exact (zeV Om).symm | exact (zeU Om Om).symm | exact (zeT Om).symm | exact (zeW Om Om Om).symm
  refine SR <| MC rfl <| CN <| zbo rfl rfl <| MB rfl <| zan (d := 28) rfl (fun g17 => ?_) (fun g17 => ?_)
  ·refine TK (t := 28) rfl (Vb (Dt g17)) <| zad (v := .int .u8 _) rfl <| TK (t := 28) rfl (Vb (Dt g17)) <| zbI rfl rfl <| CN <| zap (u := .bool _) (Vb (Dt g17)) rfl <| AB rfl <| NL <| zab rfl (fun g18 => ?_) (fun g18 => ?_)
   ·refine SR <| AI rfl <| NL <| zah Tryz.func79 rfl (TP (v := .int .i64 _) rfl) <| ⟨Vi ?_, hst.pure⟩
    first | exact (zeV Om).symm | exact (zeU Om Om).symm | exact (zeT Om).symm | exact (zeW Om Om Om).symm
   refine zaf <| zam <| SR <| AI rfl <| NL <| zah Tryz.func79 rfl (TP (v := .int .i64 _) rfl) <| ⟨Vi ?_, hst.pure⟩
   first | exact (zeV Om).symm | exact (zeU Om Om).symm | exact (zeT Om).symm | exact (zeW Om Om Om).symm
  refine OM (t := 28) rfl (Vb (Df g17)) rfl <| OM (t := 28) rfl (Vb (Df g17)) rfl <| CN <| zaq (u := .bool _) (Vb (Df g17)) rfl <| AB rfl <| NL <| zat (Vb (rfl : false = _)) <| zaf <| zam <| SR <| AI rfl <| NL <| zah Tryz.func79 rfl (TP (v := .int .i64 _) rfl) <| ⟨Vi ?_, hst.pure⟩
  first | exact (zeV Om).symm | exact (zeU Om Om).symm | exact (zeT Om).symm | exact (zeW Om Om Om).symm
 refine OM (t := 19) rfl (Vb (Df g14)) rfl <| OM (t := 19) rfl (Vb (Df g14)) rfl <| CN <| zaq (u := .bool _) (Vb (Df g14)) rfl <| AB rfl <| NL <| zaj [(0, .int .u8 _), (10, .bool _)] E2 fun f => zat (Vb (rfl : false = _)) <| RG <| MC rfl <| CN <| zak rfl rfl <| AB rfl <| NL <| zab rfl (fun g19 => ?_) (fun g19 => ?_)
 ·refine SR <| AI rfl <| NL <| zah Tryz.func79 rfl (TP (v := .int .i64 _) rfl) <| ⟨Vi ?_, hst.pure⟩
  first | exact (zeV Om).symm | exact (zeU Om Om).symm | exact (zeT Om).symm | exact (zeW Om Om Om).symm
 refine SR <| MC rfl <| CN <| zbo rfl rfl <| MB rfl <| zan (d := 28) rfl (fun g20 => ?_) (fun g20 => ?_)
 ·refine TK (t := 28) rfl (Vb (Dt g20)) <| zad (v := .int .u8 _) rfl <| TK (t := 28) rfl (Vb (Dt g20)) <| zbI rfl rfl <| CN <| zap (u := .bool _) (Vb (Dt g20)) rfl <| AB rfl <| NL <| zab rfl (fun g21 => ?_) (fun g21 => ?_)
  ·refine SR <| AI rfl <| NL <| zah Tryz.func79 rfl (TP (v := .int .i64 _) rfl) <| ⟨Vi ?_, hst.pure⟩
   first | exact (zeV Om).symm | exact (zeU Om Om).symm | exact (zeT Om).symm | exact (zeW Om Om Om).symm
  refine zaf <| zam <| SR <| AI rfl <| NL <| zah Tryz.func79 rfl (TP (v := .int .i64 _) rfl) <| ⟨Vi ?_, hst.pure⟩
  first | exact (zeV Om).symm | exact (zeU Om Om).symm | exact (zeT Om).symm | exact (zeW Om Om Om).symm
 refine OM (t := 28) rfl (Vb (Df g20)) rfl <| OM (t := 28) rfl (Vb (Df g20)) rfl <| CN <| zaq (u := .bool _) (Vb (Df g20)) rfl <| AB rfl <| NL <| zat (Vb (rfl : false = _)) <| zaf <| zam <| SR <| AI rfl <| NL <| zah Tryz.func79 rfl (TP (v := .int .i64 _) rfl) <| ⟨Vi ?_, hst.pure⟩
 first | exact (zeV Om).symm | exact (zeU Om Om).symm | exact (zeT Om).symm | exact (zeW Om Om Om).symm
end Go.SK
namespace Go.SK
open Go Go.Proofs
theorem ty9 : TyF Tryz.prog 9 .string 1 16 [str []] := zbK Kr Kr
theorem zud : zaN Tryz.prog 79 := ⟨Tryz.f79, _, Tryz.func79, Kr, rfl⟩
end Go.SK
namespace Go.SK
open Go Go.Proofs
open Go.RowKit
theorem zg4 (s : Tx) (w : World) (hl : s.length ≤ 140737488355328) : Ret Tryz.prog 85 #[str s] w (fun v w' => v = str (zch s) ∧ St w NoM [] [] w') := by
 refine zav (args := [str s]) Tryz.func85 rfl rfl rfl ?_
 have hst := St.init w
 refine SR <| AS rfl <| NSR <| AI rfl <| NL <| SQ <| zao <| zaV <| zaU [(0, str _)] ⟨rfl, trivial⟩ (fun (qq : Nat) => [(3, .int .i64 (qq : Int))]) (fun (qq : Nat) => []) (fun (qq : Nat) => qq ≤ s.length ∧ (zch s).length = qq + (zch (s.drop qq)).length) (fun (qq : Nat) => s.length - qq) (0) hst ⟨Nat.zero_le _, (Nat.zero_add _).symm⟩ ⟨rfl, trivial⟩ ?_
 intro i f w hst hJ ih1
 replace hst : St _ _ ([] ++ []) _ _ := hst
 replace hJ : i ≤ s.length ∧ (zch s).length = i + (zch (s.drop i)).length := hJ
 refine za2 (sl := [(3, .int .i64 (i : Int))]) ⟨rfl, trivial⟩ ?_
 have hidx : zfx (s.getD ((i : Int).toNat) 0) = zfx (s.getD i 0) := rfl
 refine SQ <| SR <| MI rfl <| MS rfl <| CN <| zaL (rest := []) ty9 rfl <| CN <| zaS rfl rfl <| MB rfl <| zan (d := 8) rfl (fun g2 => ?_) (fun g2 => ?_)
 ·refine TK (t := 8) rfl (Vb (Dt g2)) <| zad (v := str _) rfl <| TK (t := 8) rfl (Vb (Dt g2)) <| zad (v := .int .i64 _) rfl <| TK (t := 8) rfl (Vb (Dt g2)) <| zaH ty9 rfl rfl Om Om <| TK (t := 8) rfl (Vb (Dt g2)) (Op1.call1 (v1 := .int .u8 _) zud rfl rfl ((zeL _ _).mono fun v w hp => ?_))
  obtain ⟨rfl, hp⟩ := hp
  replace hst := hst.keepc hp
  clear hp
  refine TK (t := 8) rfl (Vb (Dt g2)) <| zbo rfl rfl <| CN <| zap (u := .bool _) (Vb (Dt g2)) rfl <| NL <| zab rfl (fun g3 => ?_) (fun g3 => ?_)
  ·refine zaf <| zao <| RG <| MI rfl <| CN <| zas rfl rfl rfl zbe <| AI rfl <| NL <| zam <| zay ?_
   have hs1 := zhO (s := s) (i := i) Om ((zqT (s.getD i 0)).1 Om)
   exact ih1 (i + 1) _ w Om hst (⟨by omega, by omega⟩) ⟨rfl, trivial⟩ ⟨(Vi Om), trivial⟩
  refine zaJ (id := 0) rfl <| SR <| MS rfl <| MI rfl <| CN <| zc2 ty9 rfl rfl Om Om <| AS rfl <| NL <| zah Tryz.func85 rfl (TP (v := str _) rfl) ?_
  have hz : (zch (s.drop i)).length = 0 := zqF Om (fun hr => by have := (zqT (s.getD i 0)).2 hr; omega)
  refine ⟨congrArg str ?_, hst.pure⟩
  exact zgm s Om
 refine OM (t := 8) rfl (Vb (Df g2)) rfl <| OM (t := 8) rfl (Vb (Df g2)) rfl <| OM (t := 8) rfl (Vb (Df g2)) rfl <| OM (t := 8) rfl (Vb (Df g2)) rfl <| OM (t := 8) rfl (Vb (Df g2)) rfl <| CN <| zaq (u := .bool _) (Vb (Df g2)) rfl <| NL <| zat (Vb (rfl : false = _)) <| zaJ (id := 0) rfl <| SR <| MS rfl <| MI rfl <| CN <| zc2 ty9 rfl rfl Om Om <| AS rfl ?_
 refine NL <| zah Tryz.func85 rfl (TP (v := str _) rfl) ?_
 have hz : (zch (s.drop i)).length = 0 := ztl Om
 refine ⟨congrArg str ?_, hst.pure⟩
 exact zgm s Om
end Go.SK
namespace Go.SK
open Go Go.Proofs
theorem zbt : TyF Tryz.prog 22 (.int .u32) 1 4 [.int .u32 0] := zbK Kr Kr
theorem zaw : Tryz.prog.follows .mixedOrders = true := by kernel_rfl
end Go.SK
namespace Go.SK
open Go Go.Proofs
open Go.RowKit
open Go.Shelf
def LxG : Res where
 foot := fun b => b = 1 ∨ b = 2 ∨ b = 3
 holds := fun w => (∃ tp p T fz, w.heap[1]? = some (.cells #[.iface tp p] T fz)) ∧ (∃ tp p T fz, w.heap[2]? = some (.cells #[.iface tp p] T fz)) ∧ ∃ T fz, w.heap[3]? = some (.cells (Lib.pow10Tab.map fun z => Value.int .u64 z).toArray T fz)
 stable := fun w w' h hh => by rw [h _ (.inl rfl), h _ (.inr (.inl rfl)), h _ (.inr (.inr rfl))]; exact hh
 inb := fun w hh b hb => by
  obtain ⟨⟨_, _, _, _, h0⟩, ⟨_, _, _, _, h1⟩, ⟨_, _, h3⟩⟩ := hh
  rcases hb with rfl | rfl | rfl
  ·exact (Array.getElem?_eq_some_iff.1 h0).1
  ·exact (Array.getElem?_eq_some_iff.1 h1).1
  ·exact (Array.getElem?_eq_some_iff.1 h3).1
theorem zs7 {P : Program} {n : String} {k : Nat} {w : World} {cs : Array Value} {T : TypeId} {fz : Nat × Nat} (hn : P.globalNamed n = some k) (h : w.heap[k]? = some (.cells cs T fz)) : w.var? P n = some cs := by
 simp [World.var?, hn, h]
theorem zx3 {w : World} {k : Nat} {v : Value} {T : TypeId} {fz : Nat × Nat} (h : w.heap[k]? = some (.cells #[v] T fz)) : w.cell? ⟨k, 0, none⟩ = some v := by
 simp [World.cell?, h]
theorem zxM (s : Tx) (w : World) (hG : LxG.holds w) (hl : s.length ≤ 140737488355328) : Ret Tryz.prog 86 #[str s, .int .i64 10, .int .i64 32] w (fun v w' => (((puO s).isSome = true ∧ v = .tuple #[.int .u64 (puV s : Int), .nilIface]) ∨ ((puO s).isSome = false ∧ ∃ N, v = .tuple #[.int .u64 (puV s : Int), .iface 252 (.pointer (some ⟨N, 0, none⟩))])) ∧ St w NoM [] [] w') := by
 obtain ⟨⟨tp0, p0, _, _, h0⟩, ⟨tp1, p1, _, _, h1⟩, _⟩ := hG
 unfold puO puV
 cases h : Lib.parseUintB 32 s
 ·rename_i u
  refine Calls.mono (Any.strconv_ParseUint_10_at32_ok zhq ⟨s.toArray⟩ (by rw [zgI]; omega) u h w) ?_
  rintro e w' ⟨he, hw⟩
  refine ⟨_, he, .inl ⟨rfl, rfl⟩, ?_⟩
  rcases hw with rfl | rfl
  ·exact St.init _
  ·exact St.ofBelow (Lib.bytesWorld_below _ _ _)
 ·refine Calls.mono (Any.strconv_ParseUint_10_at32_syntax_var zhq ⟨s.toArray⟩ (by rw [zgI]; omega) h tp0 p0 w (zs7 (by kernel_rfl) h0)) ?_
  rintro e w' ⟨N, he, _, _, hw⟩
  exact ⟨_, he, .inr ⟨rfl, N, rfl⟩, St.ofBelow hw⟩
 ·refine Calls.mono (Any.strconv_ParseUint_10_at32_range_var zhq ⟨s.toArray⟩ (by rw [zgI]; omega) h tp1 p1 w (zs7 (by kernel_rfl) h1)) ?_
  rintro e w' ⟨N, he, _, _, hw⟩
  exact ⟨_, he, .inr ⟨rfl, N, rfl⟩, St.ofBelow hw⟩
theorem lx_CP (s p : Tx) (w : World) : Ret Tryz.prog 84 #[str s, str p] w (fun v w' => v = .tuple #[str (Lib.trimPrefix s p), .bool (Lib.hasPrefix s p)] ∧ St w NoM [] [] w') :=
 zfZ (Any.strings_CutPrefix zr6 ⟨s.toArray⟩ ⟨p.toArray⟩ w)
theorem znK (s p : Tx) (w : World) : Ret Tryz.prog 84 #[str s, str p] w (fun v w' => (s.take p.length = p ∧ v = .tuple #[str (s.drop p.length), .bool true] ∧ St w NoM [] [] w') ∨ (s.take p.length ≠ p ∧ v = .tuple #[str s, .bool false] ∧ St w NoM [] [] w')) :=
 (lx_CP s p w).mono fun v w' ⟨hv, hst⟩ => by
  cases h : Lib.hasPrefix s p
  ·exact .inr ⟨(ztd h).2, by rw [hv, (ztd h).1, h], hst⟩
  ·exact .inl ⟨(zqu h).2, by rw [hv, (zqu h).1, h], hst⟩
theorem lx_IB (s : Tx) (c : Int) (w : World) : Ret Tryz.prog 87 #[str s, .int .u8 c] w (fun v w' => v = .int .i64 (Lib.indexByte s c.toNat.toUInt8) ∧ St w NoM [] [] w') :=
 zfZ (Any.strings_IndexByte zr5 ⟨s.toArray⟩ c w)
theorem zvU (i : Nat) (h : i < 100) (w : World) : Ret Tryz.prog 195 #[.int .i64 (i : Int)] w (fun v w' => v = str (Lib.decDigits i) ∧ St w NoM [] [] w') :=
 zfZ (Any.internal_strconv_small zr3 i h w)
theorem znJ (u : Nat) (w : World) (hG : LxG.holds w) (h1 : 1 ≤ u) (h2 : u < 18446744073709551616) : Ret Tryz.prog 196 #[.int .u64 (u : Int)] w (fun v w' => v = .int .i64 (Lib.nDigits u : Int) ∧ St w NoM [] [] w') := by
 obtain ⟨_, _, _, _, h3⟩ := hG
 exact zfZ (Any.internal_strconv_numDigits zpy u h1 h2 w (zs7 Kr h3))
theorem zdd (c : Int) (w : World) : Ret Tryz.prog 187 #[.int .u8 c] w (fun v w' => v = .int .u8 (bits .or .u8 c 32) ∧ St w NoM [] [] w') :=
 zfZ (Any.internal_strconv_lower zr1 c w)
theorem lx_TE (f0 s : Tx) (w : World) (hG : LxG.holds w) (hl : s.length ≤ 140737488355328) : Ret Tryz.prog 145 #[str f0, str s, .int .i64 16, .int .i64 32, .iface 251 (.int .i64 2)] w (fun v w' => (∃ N, v = .iface 252 (.pointer (some ⟨N, 0, none⟩))) ∧ St w NoM [] [] w') := by
 obtain ⟨⟨tp0, p0, _, _, h0⟩, _, _⟩ := hG
 refine Calls.mono (Any.strconv_toError_syntax zpz ⟨f0.toArray⟩ ⟨s.toArray⟩ 16 32 (.iface tp0 p0) w (by rw [zgI]; omega) (zx3 h0) (.inr ⟨_, _, rfl⟩)) ?_
 rintro e w' ⟨N, he, _, _, hw⟩
 exact ⟨_, he, ⟨N, rfl⟩, St.ofBelow hw⟩
end Go.SK
namespace Go.SK
open Go Go.Proofs Go.RowKit Go.ChangeShapes Go.WideShapes Go.ChangeAt
open Go.Proofs.YtglmmdpeenckbaaGreatDoor
theorem zpd {P : Program} {n : String} {k : Nat} {w : World} {cs : Array Value} (hn : P.globalNamed n = some k) (h : w.var? P n = some cs) : ∃ T fz, w.heap[k]? = some (.cells cs T fz) := by
 unfold World.var? at h
 rw [hn, Option.bind_some] at h
 split at h
 ·cases h; rename_i T fz he; exact ⟨_, _, he⟩
 ·cases h
theorem lxG_of {W : World} (h : laidMet Tryz.prog Rows.asmLinesRow.laid W) : LxG.holds W := by
 have h3 := Lib.tabIs_of_head (k := .u64) (zs := Lib.pow10Tab) (g := 3) (t := 278) (e := 149) (n := 20) Kr Kr Tryz.underlying278 Tryz.underlying149 Kr Kr (show laidMet Tryz.prog ((_, Lib.tabData .u64 Lib.pow10Tab) :: _) W from h.tail.tail)
 obtain ⟨a1, s1, hv1, _⟩ := laid_sentinel (g := 2) (ti := 151) (tp := 288) (te := 290) (ts := 9) h.tail.tail.tail Kr Kr Tryz.underlying151 (fun u hu => typeName_ptr_named (nm := "errors.errorString") Kr Kr De u (hu.trans (congrArg some De))) Tryz.underlying288 Tryz.underlying290 rfl rfl Tryz.underlying9 Kr Kr
 obtain ⟨a0, s0, hv0, _⟩ := laid_sentinel (g := 1) (ti := 151) (tp := 288) (te := 290) (ts := 9) h.tail.tail.tail.tail Kr Kr Tryz.underlying151 (fun u hu => typeName_ptr_named (nm := "errors.errorString") Kr Kr De u (hu.trans (congrArg some De))) Tryz.underlying288 Tryz.underlying290 rfl rfl Tryz.underlying9 Kr Kr
 obtain ⟨T1, f1, hh1⟩ := zpd Kr hv1
 obtain ⟨T0, f0, hh0⟩ := zpd Kr hv0
 obtain ⟨T3, f3, hh3⟩ := zpd Kr h3
 exact ⟨⟨_, _, _, _, hh0⟩, ⟨_, _, _, _, hh1⟩, ⟨_, _, hh3⟩⟩
theorem lx_door (os : Os) (args : Array Value) : laidMet Tryz.prog Rows.asmLinesRow.laid ((World.doorLaid Tryz.prog 400 os).forCall (fun _ _ => 0) ⟨#[], args, []⟩).memory :=
 laidMet_of_run' 8 Kr Kr
theorem lx_own : ownKnob Tryz.prog.godebug = none := by kernel_rfl
theorem lx_out : laidOutB Tryz.prog = true := by kernel_rfl
end Go.SK
namespace Go.SK
open Go.RowKit Go.ChangeShapes Go.WideShapes Go.ChangeAt
section
variable {H : Type} {enc : TypeId × Value → H} {P : Program} {w : World} {base : Nat} {spare : Nat → Bool} {held : Bool} {M I A : TypeId}
def ArgP.good (a : ArgP) : Prop := (0 ≤ a.kind ∧ a.kind ≤ 255) ∧ (0 ≤ a.n ∧ a.n ≤ 4294967295)
def InstP.good (w : World) (i : InstP) : Prop := (0 ≤ i.op ∧ i.op ≤ 65535) ∧ (0 ≤ i.ty ∧ i.ty ≤ 4294967295) ∧ (0 ≤ i.res ∧ i.res ≤ 4294967295) ∧ (∀ a ∈ i.args, a.good) ∧ (Res.rargs i).holds w
end
end Go.SK
namespace Go.SK
open Go.RowKit Go.ChangeShapes Go.WideShapes Go.ChangeAt
section
variable {H : Type} {f : DataW H → Nat} {fa : List (DataW H) → Nat}
structure InstP.Tiny (i : InstP) : Prop where
  sum : (i.args.map za1).sum ≤ 1048576
  txt : ∀ a ∈ i.args, a.s.length ≤ 1048576
end
theorem InstP.Tiny.args {i : InstP} (h : i.Tiny) : i.args.length ≤ 1048576 := Nat.le_trans (zeE _) h.sum
end Go.SK
namespace Go.SK
def zgR (s : Tx) (a : Nat) : Option (Tx × Nat) := quoN (s.length - a) (s.drop a)
def zrR (o : Option (Tx × Nat)) : Tx × Nat := match o with
  | some (t, m) => (t, m + 1)
  | none => ([], 0)
end Go.SK
namespace Go.SK
theorem zdB (s : Tx) (a : Nat) : (s.drop a).getD 0 0 = s.getD a 0 := by rw [zdv]; rfl
theorem zwn (s : Tx) (a : Nat) : (s.drop a).drop 1 = s.drop (a + 1) := List.drop_drop
theorem znS {c : UInt8} {n : Nat} (h : zfv c = true) (hn : n < 65) : c.toNat ≠ n := by
  unfold zfv at h; simp only [decide_eq_true_eq] at h; omega
section
variable {s : Tx} {a : Nat}
theorem zhI (h : zfv (s.getD a 0) = true) : zf7 (s.drop a) = .ok (1, zch (s.drop a), (zch (s.drop a)).length) := by
  unfold zf7; dsimp only; rw [zdB, if_pos h]
theorem zqx (h : (s.getD a 0).toNat = 37) : zf7 (s.drop a) = if (zbn (zch (s.drop (a + 1)))).isSome = true then .ok (2, zch (s.drop (a + 1)), (zch (s.drop (a + 1))).length + 1) else .error 62 := by
  unfold zf7; dsimp only; rw [zdB, zwn, if_neg (fun q => znS q (n := 37) (by omega) h), if_pos h]
theorem zl3 (h : zdT (s.getD a 0) = true ∨ (s.getD a 0).toNat = 45) : zf7 (s.drop a) = if (zba ((s.drop a).take (1 + (zch (s.drop (a + 1))).length))).2 = 0 then .ok (3, (s.drop a).take (1 + (zch (s.drop (a + 1))).length), ((s.drop a).take (1 + (zch (s.drop (a + 1))).length)).length) else .error 62 := by
  have hl : ¬ zfv (s.getD a 0) = true := fun q => by
    rcases h with h | h
    · rw [zuq h] at q; cases q
    · exact znS q (n := 45) Om h
  have h37 : ¬ (s.getD a 0).toNat = 37 := by
    rcases h with h | h
    · have := zhk h; omega
    · omega
  unfold zf7; dsimp only; rw [zdB, zwn, if_neg hl, if_neg h37, if_pos h]
theorem zxH (s : Tx) (a : Nat) : quoN ((s.drop a).drop 1).length ((s.drop a).drop 1) = zgR s (a + 1) := by
  unfold zgR; rw [zwn, List.length_drop]
theorem zl2 (h : (s.getD a 0).toNat = 34) : zf7 (s.drop a) = match zgR s (a + 1) with
    | none => .error 61
    | some (t, n) => .ok (4, t, n + 1) := by
  have hd : ¬ (zdT (s.getD a 0) = true ∨ (s.getD a 0).toNat = 45) := fun q => by
    rcases q with q | q
    · have := zhk q; omega
    · omega
  unfold zf7; dsimp only; rw [zdB, if_neg (fun q => znS q (n := 34) (by omega) h), if_neg (by omega), if_neg hd, if_pos h, zxH] <;> rfl
theorem zng (h : (s.getD a 0).toNat = 61) : zf7 (s.drop a) = .ok (5, [61], 1) := by
  have hd : ¬ (zdT (s.getD a 0) = true ∨ (s.getD a 0).toNat = 45) := fun q => by
    rcases q with q | q
    · have := zhk q; omega
    · omega
  unfold zf7; dsimp only; rw [zdB, if_neg (fun q => znS q (n := 61) (by omega) h), if_neg (by omega), if_neg hd, if_neg (by omega), if_pos h]
theorem zl4 (h : (s.getD a 0).toNat = 37) (hp : (zbn (zch (s.drop (a + 1)))).isSome = true) : zf7 (s.drop a) = .ok (2, zch (s.drop (a + 1)), (zch (s.drop (a + 1))).length + 1) := by rw [zqx h, if_pos hp]
theorem zgj {t : Tx} (h : zdT (s.getD a 0) = true ∨ (s.getD a 0).toNat = 45) (ht : (s.drop a).take (1 + (zch (s.drop (a + 1))).length) = t) (hp : (zba t).2 = 0) : zf7 (s.drop a) = .ok (3, t, t.length) := by rw [zl3 h, ht, if_pos hp]
theorem zjJ (h : (s.getD a 0).toNat = 34) (hq : ¬ (zrR (zgR s (a + 1))).2 = 0) : zf7 (s.drop a) = .ok (4, (zrR (zgR s (a + 1))).1, (zrR (zgR s (a + 1))).2) := by
  rw [zl2 h]
  cases e : zgR s (a + 1) with
  | none => rw [e] at hq; exact absurd rfl hq
  | some q => rfl
end
def zbW (t : TokL) : List Value := [.int .u8 t.kind, str t.text, .int .i64 t.at_]
theorem zbk (t : TokL) : (zbW t).length = 3 := rfl
def zaR : TokL := ⟨0, [], 0⟩
end Go.SK
namespace Go.SK
section
variable {t : TokL}
theorem zqs (h : t.kind = 1) (h0 : t.text ≠ []) (h1 : zfv (t.text.getD 0 0) = true) (h2 : zch t.text = t.text) : wrT t = some t.text := by
  have hl : 0 < t.text.length := List.length_pos_iff.2 h0
  unfold wrT; rw [if_pos h, if_pos ⟨hl, h1, h2⟩]
theorem zqr (h : t.kind = 2) (h1 : (zbn t.text).isSome = true) : wrT t = some (37 :: t.text) := by
  unfold wrT; rw [if_neg (by omega), if_pos h, if_pos h1]
theorem zqq (h : t.kind = 3) (h1 : (zba t.text).2 = 0) : wrT t = some t.text := by
  unfold wrT; rw [if_neg (by omega), if_neg (by omega), if_pos h, if_pos h1]
theorem zm9 (h : t.kind = 4) : wrT t = some (zd0 t.text) := by
  unfold wrT; rw [if_neg (by omega), if_neg (by omega), if_neg (by omega), if_pos h]
theorem zjC (h : t.kind = 5) (h1 : t.text = [61]) : wrT t = some [61] := by
  unfold wrT; rw [if_neg (by omega), if_neg (by omega), if_neg (by omega), if_neg (by omega), if_pos h, if_pos h1]
end
def wrL : List TokL → Option (List Tx)
  | [] => some []
  | t :: r => (wrT t).bind fun a => (wrL r).map fun b => a :: b
def wsz : List TokL → Nat
  | [] => 0
  | t :: r => 4 * t.text.length + 3 + wsz r
def osz : List Tx → Nat
  | [] => 0
  | x :: r => x.length + 1 + osz r
theorem zie {l : List TokL} {i : Nat} (h : i < l.length) : l.drop i = l.getD i zaR :: l.drop (i + 1) := by
  rw [List.drop_eq_getElem_cons h]; simp [List.getD, h]
theorem zlW {l : List TokL} {i : Nat} (h : i < l.length) : 4 * (l.getD i zaR).text.length + 3 + wsz (l.drop (i + 1)) = wsz (l.drop i) := by
  rw [zie h, wsz]
end Go.SK
namespace Go.SK
theorem zhR {s : Tx} (h : s.all zji = true) : zch s = s := by
  unfold zch
  induction s with
  | nil => rfl
  | cons c r ih =>
    rw [List.all_cons, Bool.and_eq_true] at h
    rw [List.takeWhile_cons, if_pos h.1, ih h.2]
def znv : List TokL → List Tx → Nat → List TokL
  | t :: r, x :: xs, k => ⟨t.kind, t.text, (k : Int)⟩ :: znv r xs (k + x.length + 1)
  | _, _, _ => []
theorem zjY : ∀ (l : List TokL) (o : List Tx) (k i : Nat), wrL l = some o → i < l.length → (znv l o k).getD i zaR = ⟨(l.getD i zaR).kind, (l.getD i zaR).text, ((k + osz (o.take i) : Nat) : Int)⟩ ∧ wrT (l.getD i zaR) = some (o.getD i [])
  | [], o, k, i, _, hi => by simp at hi
  | t :: r, o, k, i, h, hi => by
    rw [wrL] at h
    cases ht : wrT t with
    | none => rw [ht] at h; cases h
    | some x =>
      rw [ht, Option.bind_some] at h
      cases hr : wrL r with
      | none => rw [hr] at h; cases h
      | some xs =>
        rw [hr] at h; cases h
        cases i with
        | zero => exact ⟨rfl, ht⟩
        | succ i =>
          have := zjY r xs (k + x.length + 1) i hr (by simpa using hi)
          refine ⟨?_, this.2⟩
          show (znv r xs (k + x.length + 1)).getD i zaR = _
          rw [this.1]
          show (⟨_, _, _⟩ : TokL) = ⟨_, _, _⟩
          congr 1
          rw [List.take_succ_cons, osz]; omega
end Go.SK
namespace Go.SK
theorem zge {l : List TokL} {i : Nat} (h : i < l.length) : 4 * (l.getD i zaR).text.length + 3 ≤ wsz l := by
  induction l generalizing i with
  | nil => simp at h
  | cons t r ih =>
    cases i with
    | zero => show 4 * t.text.length + 3 ≤ _; rw [wsz]; omega
    | succ i =>
      have := ih (i := i) (by simpa using h)
      show 4 * (r.getD i zaR).text.length + 3 ≤ _
      rw [wsz]; omega
end Go.SK
namespace Go.SK
def zfE (r : Tx) : Tx := r.takeWhile fun c => decide (c.toNat ≠ 10)
def zhd (r : Tx) : Tx := r.drop ((zfE r).length + 1)
def lnN : Nat → Tx → List Tx
  | 0, _ => []
  | n + 1, r => if r.length = 0 then [] else zfE r :: lnN n (zhd r)
def lnF (r : Tx) : List Tx := lnN r.length r
end Go.SK
namespace Go.SK
def modW : Tx := [109, 111, 100, 117, 108, 101]
def zcK (n : Int) (l : List TokL) : (Int × Int) × (Int × Int) :=
  if l.length = 0 then ((0, 0), (72, n))
  else if (l.getD 0 zaR).kind ≠ 1 ∨ (l.getD 0 zaR).text ≠ modW then ((0, 0), (70, (l.getD 0 zaR).at_))
  else if l.length = 1 then ((0, 0), (72, n))
  else if (l.getD 1 zaR).kind ≠ 3 then ((0, 0), (70, (l.getD 1 zaR).at_))
  else if (zba (l.getD 1 zaR).text).2 ≠ 0 then ((0, 0), ((zba (l.getD 1 zaR).text).2, (l.getD 1 zaR).at_))
  else if l.length = 2 then ((0, 0), (72, n))
  else if (l.getD 2 zaR).kind ≠ 3 then ((0, 0), (70, (l.getD 2 zaR).at_))
  else if (zba (l.getD 2 zaR).text).2 ≠ 0 then ((0, 0), ((zba (l.getD 2 zaR).text).2, (l.getD 2 zaR).at_))
  else if (zba (l.getD 2 zaR).text).1 < 1 ∨ 65536 < (zba (l.getD 2 zaR).text).1 then ((0, 0), (24, (l.getD 2 zaR).at_))
  else if 3 < l.length then ((0, 0), (70, (l.getD 3 zaR).at_))
  else (((zba (l.getD 1 zaR).text).1, (zba (l.getD 2 zaR).text).1), (0, 0))
def zcf (s : Tx) : (Int × Int) × (Int × Int) := if (za7 s).2.1 ≠ 0 then ((0, 0), (za7 s).2) else zcK s.length (za7 s).1
section
variable {n : Int} {l : List TokL}
theorem zkg (hk : (l.getD 0 zaR).kind = 1) (ht : (l.getD 0 zaR).text = modW) (h0 : 1 < l.length) : zcK n l =
    if (l.getD 1 zaR).kind ≠ 3 then ((0, 0), (70, (l.getD 1 zaR).at_))
    else if (zba (l.getD 1 zaR).text).2 ≠ 0 then ((0, 0), ((zba (l.getD 1 zaR).text).2, (l.getD 1 zaR).at_))
    else if l.length = 2 then ((0, 0), (72, n))
    else if (l.getD 2 zaR).kind ≠ 3 then ((0, 0), (70, (l.getD 2 zaR).at_))
    else if (zba (l.getD 2 zaR).text).2 ≠ 0 then ((0, 0), ((zba (l.getD 2 zaR).text).2, (l.getD 2 zaR).at_))
    else if (zba (l.getD 2 zaR).text).1 < 1 ∨ 65536 < (zba (l.getD 2 zaR).text).1 then ((0, 0), (24, (l.getD 2 zaR).at_))
    else if 3 < l.length then ((0, 0), (70, (l.getD 3 zaR).at_))
    else (((zba (l.getD 1 zaR).text).1, (zba (l.getD 2 zaR).text).1), (0, 0)) := by
  conv => lhs; unfold zcK
  rw [if_neg (by omega), if_neg (by rintro (q | q) <;> contradiction), if_neg (by omega)]
end
def idL (t : Tx) (bound : Int) : Int := if 1 ≤ (plR t : Int) ∧ (plR t : Int) < bound then (plR t : Int) else 0
def zd2 (c : Int) : Int := if c = 105 then 2 else if c = 110 then 3 else if c = 115 then 4 else 1
def zb9 (c : Int) (t : TokL) (bound : Int) : ArgP × Int :=
  if c = 0 ∨ t.kind ≠ zd2 c then (zeroA, 70)
  else if c = 105 then (if idL t.text bound = 0 then (zeroA, 43) else (⟨1, idL t.text bound, []⟩, 0))
  else if c = 110 then (if (zba t.text).2 ≠ 0 then (zeroA, (zba t.text).2) else (⟨2, (zba t.text).1, []⟩, 0))
  else if c = 115 then (if zbS t.text ≠ t.text.length then (zeroA, 13) else (⟨3, 0, t.text⟩, 0))
  else if (namesL.find? (enS c t.text)).isSome = false then (zeroA, 71)
  else (⟨4, ((namesL.find? (enS c t.text)).getD zcz).n, []⟩, 0)
def zcQ (fm : FormL) (bound : Int) : Nat → List TokL → List ArgP × (Int × Int)
  | _, [] => ([], (0, 0))
  | k, t :: r =>
    if (zb9 (zaP fm k) t bound).2 ≠ 0 then ([], ((zb9 (zaP fm k) t bound).2, t.at_))
    else ((zb9 (zaP fm k) t bound).1 :: (zcQ fm bound (k + 1) r).1, (zcQ fm bound (k + 1) r).2)
def zi6 (l : List TokL) : Nat := if (l.getD 0 zaR).kind = 2 then 2 else 0
def zgq (n : Int) (l : List TokL) (bound : Int) (fm : FormL) : InstL × Bool × (Int × Int) :=
  if fm.res ≠ decide ((l.getD 0 zaR).kind = 2) then (zeroIL, false, (41, (l.getD 0 zaR).at_))
  else if (l.getD 0 zaR).kind = 2 ∧ idL (l.getD 0 zaR).text bound = 0 then (zeroIL, false, (43, (l.getD 0 zaR).at_))
  else if fm.ty = true ∧ l.length = zi6 l + 1 then (zeroIL, false, (72, n))
  else if fm.ty = true ∧ (l.getD (zi6 l + 1) zaR).kind ≠ 2 then (zeroIL, false, (70, (l.getD (zi6 l + 1) zaR).at_))
  else if fm.ty = true ∧ idL (l.getD (zi6 l + 1) zaR).text bound = 0 then (zeroIL, false, (43, (l.getD (zi6 l + 1) zaR).at_))
  else if (zcQ fm bound 0 (l.drop (zi6 l + 1 + b2n fm.ty))).2.1 ≠ 0 then (zeroIL, false, (zcQ fm bound 0 (l.drop (zi6 l + 1 + b2n fm.ty))).2)
  else if (zej fm.op ((zcQ fm bound 0 (l.drop (zi6 l + 1 + b2n fm.ty))).1.map ArgP.kind)).2 = false then (zeroIL, false, (72, n))
  else if zbT fm (zcQ fm bound 0 (l.drop (zi6 l + 1 + b2n fm.ty))).1 > 65535 then (zeroIL, false, (25, 0))
  else (⟨fm.op, if fm.ty = true then idL (l.getD (zi6 l + 1) zaR).text bound else 0, if (l.getD 0 zaR).kind = 2 then idL (l.getD 0 zaR).text bound else 0, (zcQ fm bound 0 (l.drop (zi6 l + 1 + b2n fm.ty))).1⟩, true, (0, 0))
def zcV (n : Int) (l : List TokL) (bound : Int) : InstL × Bool × (Int × Int) :=
  if l.length = 0 then (zeroIL, false, (0, 0))
  else if (l.getD 0 zaR).kind = 2 ∧ l.length = 1 then (zeroIL, false, (72, n))
  else if (l.getD 0 zaR).kind = 2 ∧ (l.getD 1 zaR).kind ≠ 5 then (zeroIL, false, (70, (l.getD 1 zaR).at_))
  else if (l.getD 0 zaR).kind = 2 ∧ l.length = 2 then (zeroIL, false, (72, n))
  else if (l.getD (zi6 l) zaR).kind ≠ 1 then (zeroIL, false, (70, (l.getD (zi6 l) zaR).at_))
  else if (refT.find? (nmF (l.getD (zi6 l) zaR).text)).isSome = false then (zeroIL, false, (71, (l.getD (zi6 l) zaR).at_))
  else zgq n l bound ((refT.find? (nmF (l.getD (zi6 l) zaR).text)).getD zeroF)
def zaT (s : Tx) (bound : Int) : InstL × Bool × (Int × Int) := if (za7 s).2.1 ≠ 0 then (zeroIL, false, (za7 s).2) else zcV s.length (za7 s).1 bound
end Go.SK
namespace Go.SK
theorem ziv : zbS ([] : Tx) = 0 := rfl
theorem zpO {c : Int} {t : TokL} {bound : Int} (hc : 0 ≤ c ∧ c ≤ 255) (h : (zb9 c t bound).2 = 0) : c ≠ 0 ∧ (zb9 c t bound).1.kind = zbZ c ∧ zbN c (zb9 c t bound).1 bound = 0 ∧ (zb9 c t bound).1.s.length ≤ t.text.length := by
  unfold zb9 at h ⊢
  by_cases h1 : c = 0 ∨ t.kind ≠ zd2 c
  · rw [if_pos h1] at h; cases h
  rw [if_neg h1] at h ⊢
  have hc0 : c ≠ 0 := fun e => h1 (.inl e)
  by_cases h2 : c = 105
  · rw [if_pos h2] at h ⊢
    subst h2
    by_cases hi : idL t.text bound = 0
    · rw [if_pos hi] at h; cases h
    · rw [if_neg hi]
      have hb : 1 ≤ idL t.text bound ∧ idL t.text bound < bound := by
        unfold idL at hi ⊢
        split
        · assumption
        · rename_i q; rw [if_neg q] at hi; exact absurd rfl hi
      refine ⟨by decide, rfl, ?_, Nat.zero_le _⟩
      unfold zbN
      rw [if_neg (by simp [zbZ]), if_neg (by simp), if_neg (by simp [idE]; omega), if_neg (by simp), if_neg (by simp [ziv])]
  rw [if_neg h2] at h ⊢
  by_cases h3 : c = 110
  · rw [if_pos h3] at h ⊢
    subst h3
    by_cases hi : (zba t.text).2 ≠ 0
    · rw [if_pos hi] at h; exact absurd h hi
    · rw [if_neg hi]
      refine ⟨by decide, rfl, ?_, Nat.zero_le _⟩
      unfold zbN
      rw [if_neg (by simp [zbZ]), if_neg (by simp), if_neg (by simp), if_neg (by simp), if_neg (by simp [ziv])]
  rw [if_neg h3] at h ⊢
  by_cases h4 : c = 115
  · rw [if_pos h4] at h ⊢
    subst h4
    by_cases hi : zbS t.text ≠ t.text.length
    · rw [if_pos hi] at h; cases h
    · rw [if_neg hi]
      refine ⟨by decide, rfl, ?_, Nat.le_refl _⟩
      unfold zbN
      rw [if_neg (by simp [zbZ]), if_neg (by simp), if_neg (by simp), if_neg (by simp), if_neg hi]
  rw [if_neg h4] at h ⊢
  cases hf : namesL.find? (enS c t.text) with
  | none => rw [hf, if_pos (show (none : Option NameL).isSome = false from rfl)] at h; exact absurd h (by decide)
  | some x =>
    rw [if_neg (by simp)]
    have hx : x.letter = c ∧ x.name = t.text := by simpa using List.find?_some hf
    have hm := List.mem_of_find?_eq_some hf
    have hany : (namesL.find? (fun y => decide (y.letter = c))).isSome = true := by
      rw [List.find?_isSome]; exact ⟨x, hm, by simp [hx.1]⟩
    have hk : zbZ c = 4 := by
      unfold zbZ; rw [if_neg h2, if_neg h3, if_neg h4, if_pos ((zj7 hc.1 hc.2).2 hany)]
    have hen : zfT c x.n = 0 := by
      unfold zfT; rw [if_pos]
      rw [List.find?_isSome]; exact ⟨x, hm, by simp [hx.1]⟩
    refine ⟨hc0, hk.symm, ?_, Nat.zero_le _⟩
    unfold zbN
    rw [if_neg (by simp [hk, hc0]), if_neg (by simp), if_neg (by simp), if_neg (by simp [hen]), if_neg (by simp [ziv])]
theorem zrl {fm : FormL} {bound : Int} : ∀ {l : List TokL} {k : Nat}, (zcQ fm bound k l).2.1 = 0 → zb0 fm bound k (zcQ fm bound k l).1 = 0 ∧ (zcQ fm bound k l).1.length = l.length ∧ (zcQ fm bound k l).2 = (0, 0)
  | [], k, _ => ⟨rfl, rfl, rfl⟩
  | t :: r, k, h => by
    unfold zcQ at h ⊢
    by_cases h1 : (zb9 (zaP fm k) t bound).2 ≠ 0
    · rw [if_pos h1] at h; exact absurd h h1
    · rw [if_neg h1] at h ⊢
      have h2 := zpO (zcp fm k) (Nn h1)
      have ih := zrl (l := r) (k := k + 1) h
      refine ⟨?_, by rw [List.length_cons, List.length_cons, ih.2.1], ih.2.2⟩
      unfold zb0
      rw [if_neg (by rw [h2.2.2.1]; simp)]; exact ih.1
theorem zv8 {op : Int} {ks : List Int} (h : (zej op ks).2 = true) : (zbv op).isSome = true ∧ ¬ zlt (zbq op) ks.length := by
  unfold zej at h
  by_cases h1 : (zbv op).isSome = true
  · rw [if_pos h1] at h
    refine ⟨h1, fun ho => ?_⟩
    unfold zmB at h
    cases hb : zjw (zbq op) 0 ks with
    | some i => rw [hb] at h; cases h
    | none => rw [hb] at h; dsimp only at h; rw [if_pos ho] at h; cases h
  · rw [if_neg h1] at h; cases h
theorem zn0 {t : Tx} {bound : Int} (h : idL t bound ≠ 0) : 1 ≤ idL t bound ∧ idL t bound < bound := by
  unfold idL at h ⊢
  split
  · assumption
  · rename_i q; rw [if_neg q] at h; exact absurd rfl h
theorem zlz {fm : FormL} {bound : Int} {said : Bool} {ty res : Int} {l : List TokL} (hfm : zbq fm.op = fm) (hr : fm.res = said) (hres : said = true → 1 ≤ res ∧ res < bound) (hres0 : said = false → res = 0) (hty : fm.ty = true → 1 ≤ ty ∧ ty < bound) (hty0 : fm.ty = false → ty = 0)
    (ha : (zcQ fm bound 0 l).2.1 = 0) (hf : (zej fm.op ((zcQ fm bound 0 l).1.map ArgP.kind)).2 = true) :
    zbu bound ⟨fm.op, ty, res, (zcQ fm bound 0 l).1⟩ = if zbT fm (zcQ fm bound 0 l).1 > 65535 then 25 else 0 := by
  have h1 := zv8 hf
  have h2 := zrl ha
  unfold zbu
  dsimp only
  rw [hfm] at h1 ⊢
  have ht : idH fm.ty ty bound 40 = 0 := by
    unfold idH
    cases hb : fm.ty with
    | false => rw [hty0 hb]; simp
    | true => have := hty hb; rw [if_neg (by simp; omega), if_neg (by simp; omega)]
  have hs : idH fm.res res bound 41 = 0 := by
    unfold idH
    rw [hr]
    cases hb : said with
    | false => rw [hres0 hb]; simp
    | true => have := hres hb; rw [if_neg (by simp; omega), if_neg (by simp; omega)]
  rw [if_neg (by rw [h1.1]; simp), if_neg (by rw [ht]; simp), if_neg (by rw [hs]; simp), if_neg (by rw [h2.1]; simp), if_neg (by have := h1.2; rwa [List.length_map] at this)]
end Go.SK
namespace Go.SK
theorem zki : refT.all (fun f => decide (zbv f.op = some f)) = true := by decide +kernel
theorem zob {q : Tx} {fm : FormL} (h : refT.find? (nmF q) = some fm) : zbv fm.op = some fm ∧ zbq fm.op = fm ∧ fm.name = q := by
  have h1 : zbv fm.op = some fm := by simpa only [decide_eq_true_eq] using List.all_eq_true.1 zki fm (List.mem_of_find?_eq_some h)
  refine ⟨h1, by rw [zbq, h1]; rfl, by simpa using List.find?_some h⟩
structure ArI (fm : FormL) (bound : Int) (l : List TokL) (q j : Nat) (ags : List ArgP) : Prop where
  le : q + j ≤ l.length
  len : ags.length = j
  eq : zcQ fm bound 0 (l.drop q) = (ags ++ (zcQ fm bound j (l.drop (q + j))).1, (zcQ fm bound j (l.drop (q + j))).2)
  tx : ∀ a ∈ ags, 4 * a.s.length ≤ wsz l
  sum : 4 * (ags.map za1).sum + wsz (l.drop (q + j)) ≤ wsz (l.drop q) + 4 * j
section
variable {fm : FormL} {bound : Int} {l : List TokL} {q j : Nat} {ags : List ArgP}
theorem ArI.start (h : q ≤ l.length) : ArI fm bound l q 0 [] := ⟨h, rfl, rfl, fun a h => absurd h List.not_mem_nil, by simp⟩
theorem zuC {c : Int} {t : TokL} {bound : Int} (hc : 0 ≤ c ∧ c ≤ 255) (h : (zb9 c t bound).2 = 0) : za1 (zb9 c t bound).1 ≤ t.text.length / 4 + 1 := by
  have h1 := (zpO hc h).2.2.2
  unfold za1
  split
  · have := Nat.div_le_div_right (c := 4) h1; omega
  · omega
theorem ArI.step (h : ArI fm bound l q j ags) (hj : q + j < l.length) (he : (zb9 (zaP fm j) (l.getD (q + j) zaR) bound).2 = 0) : ArI fm bound l q (j + 1) (ags ++ [(zb9 (zaP fm j) (l.getD (q + j) zaR) bound).1]) := by
  have hd := zie hj
  have hr := zuC (zcp fm j) he
  have ht := (zpO (zcp fm j) he).2.2.2
  have hw := zlW (l := l) (i := q + j) hj
  have hm := zge hj
  refine ⟨by omega, by rw [List.length_append, h.len]; rfl, ?_, fun a ha => ?_, ?_⟩
  · rw [h.eq, hd, zcQ, if_neg (by rw [he]; simp), List.append_assoc, ← Nat.add_assoc]; rfl
  · rcases List.mem_append.1 ha with ha | ha
    · exact h.tx a ha
    · obtain rfl := List.mem_singleton.1 ha; omega
  · have hs := h.sum
    rw [List.map_append, List.sum_append, List.map_singleton, List.sum_singleton, ← Nat.add_assoc]
    omega
theorem ArI.bad (h : ArI fm bound l q j ags) (hj : q + j < l.length) (he : (zb9 (zaP fm j) (l.getD (q + j) zaR) bound).2 ≠ 0) : (zcQ fm bound 0 (l.drop q)).2 = ((zb9 (zaP fm j) (l.getD (q + j) zaR) bound).2, (l.getD (q + j) zaR).at_) := by
  rw [h.eq, zie hj, zcQ, if_pos he]
theorem ArI.fin (h : ArI fm bound l q j ags) (hj : l.length ≤ q + j) : zcQ fm bound 0 (l.drop q) = (ags, (0, 0)) := by
  rw [h.eq, List.drop_eq_nil_of_le hj, zcQ, List.append_nil]
end
end Go.SK
namespace Go.SK
structure PaL where
  gn : Int
  bd : Int
  words : Nat
  insts : List InstL
def zhD (e a : Int) : DecL := ((0, 0, []), (e, a))
def zkL (x : Tx) (s : PaL) : Except Int PaL :=
  if s.words = 0 then
    if (za7 x).2.1 = 0 ∧ (za7 x).1.length = 0 then .ok s
    else if (zcf x).2.1 ≠ 0 then .error (zcf x).2.1
    else .ok ⟨(zcf x).1.1, (zcf x).1.2, 5, []⟩
  else if (zaT x s.bd).2.2.1 ≠ 0 then .error (zaT x s.bd).2.2.1
  else if (zaT x s.bd).2.1 = false then .ok s
  else if s.words + zbT (zbq (zaT x s.bd).1.op) (zaT x s.bd).1.args > 1048576 then .error 4
  else .ok ⟨s.gn, s.bd, s.words + zbT (zbq (zaT x s.bd).1.op) (zaT x s.bd).1.args, s.insts ++ [(zaT x s.bd).1]⟩
def zfM : Nat → List Tx → PaL → DecL
  | n, [], s => if s.words = 0 then zhD 72 n else ((s.gn, s.bd, s.insts), (0, 0))
  | n, x :: r, s => match zkL x s with
    | .error e => zhD e (n + 1)
    | .ok t => zfM (n + 1) r t
structure PaI (t : Tx) (i : Nat) (s : PaL) : Prop where
  le : i ≤ (lnF t).length
  eq : zfM 0 (lnF t) ⟨0, 0, 0, []⟩ = zfM i ((lnF t).drop i) s
  words : s.words ≤ 1048576
  small : s.insts.length ≤ s.words
theorem zom {l : List Tx} {i : Nat} (h : i < l.length) : l.drop i = l.getD i [] :: l.drop (i + 1) := by
  rw [List.drop_eq_getElem_cons h]; simp [List.getD, h]
section
variable {t : Tx} {i : Nat} {s s' : PaL}
theorem PaI.start : PaI t 0 ⟨0, 0, 0, []⟩ := ⟨Nat.zero_le _, rfl, Nat.zero_le _, Nat.le_refl _⟩
theorem PaI.bad (h : PaI t i s) (hi : i < (lnF t).length) {e : Int} (he : zkL ((lnF t).getD i []) s = .error e) : zfM 0 (lnF t) ⟨0, 0, 0, []⟩ = zhD e ((i : Int) + 1) := by
  rw [h.eq, zom hi, zfM, he]
theorem PaI.step (h : PaI t i s) (hi : i < (lnF t).length) (he : zkL ((lnF t).getD i []) s = .ok s') : PaI t (i + 1) s' := by
  refine ⟨hi, by rw [h.eq, zom hi, zfM, he], ?_, ?_⟩
  · have h1 := h.words
    unfold zkL at he
    split at he
    · split at he
      · cases he; omega
      · split at he
        · cases he
        · cases he; dsimp only; omega
    · split at he
      · cases he
      · split at he
        · cases he; omega
        · split at he
          · cases he
          · cases he; dsimp only; omega
  · have h1 := h.small
    unfold zkL at he
    split at he
    · split at he
      · cases he; omega
      · split at he
        · cases he
        · cases he; exact Nat.zero_le _
    · split at he
      · cases he
      · split at he
        · cases he; omega
        · split at he
          · cases he
          · cases he; dsimp only; rw [List.length_append, List.length_singleton]; unfold zbT; omega
theorem PaI.fin (h : PaI t (lnF t).length s) : zfM 0 (lnF t) ⟨0, 0, 0, []⟩ = if s.words = 0 then zhD 72 (lnF t).length else ((s.gn, s.bd, s.insts), (0, 0)) := by
  rw [h.eq, List.drop_eq_nil_of_le (Nat.le_refl _), zfM]
end
end Go.SK
namespace Go.SK
theorem zes {bound : Int} {i : InstL} (h : zbu bound i = 0) : (zbv i.op).isSome = true ∧ idH (zbq i.op).ty i.ty bound 40 = 0 ∧ idH (zbq i.op).res i.res bound 41 = 0 ∧ zb0 (zbq i.op) bound 0 i.args = 0 ∧ ¬ zlt (zbq i.op) i.args.length ∧ ¬ zbT (zbq i.op) i.args > 65535 := by
  unfold zbu at h
  split at h
  · cases h
  split at h
  · rename_i q; exact absurd h q
  split at h
  · rename_i q; exact absurd h q
  split at h
  · rename_i q; exact absurd h q
  split at h
  · cases h
  split at h
  · cases h
  · rename_i h1 h2 h3 h4 h5 h6
    exact ⟨by revert h1; cases (zbv i.op).isSome <;> simp, Nn h2, Nn h3, Nn h4, h5, h6⟩
structure InstL.U32 (i : InstL) : Prop where
  ty : 0 ≤ i.ty ∧ i.ty < 4294967296
  res : 0 ≤ i.res ∧ i.res < 4294967296
  args : ∀ a ∈ i.args, 0 ≤ a.n ∧ a.n < 4294967296
end Go.SK
namespace Go.SK
theorem zt9 : namesL.all (fun x => decide (0 ≤ x.n ∧ x.n < 4294967296)) = true := by decide +kernel
theorem zh0 (s : Tx) : 0 ≤ (zba s).1 ∧ (zba s).1 < 4294967296 := by
  unfold zba
  cases h : zbn s with
  | some n => have := (zj3 h).2; dsimp only; omega
  | none =>
    dsimp only
    split
    · cases h2 : zbn (s.drop 1) with
      | none => exact ⟨by decide, by decide⟩
      | some n =>
        dsimp only
        split
        · dsimp only; omega
        · exact ⟨by decide, by decide⟩
    · split
      · exact ⟨by decide, by decide⟩
      · rename_i h3
        cases h2 : zcJ (s.drop 2) 0 with
        | none => exact ⟨by decide, by decide⟩
        | some n => have := zt0 h2 (by rw [List.length_drop]; omega); dsimp only; omega
theorem zwz {c bound : Int} {t : TokL} (hb : bound ≤ 65536) : 0 ≤ (zb9 c t bound).1.n ∧ (zb9 c t bound).1.n < 4294967296 := by
  unfold zb9
  split
  · exact ⟨by decide, by decide⟩
  split
  · split
    · exact ⟨by decide, by decide⟩
    · rename_i h
      have := zn0 h
      dsimp only; omega
  split
  · split
    · exact ⟨show (0 : Int) ≤ 0 by decide, show (0 : Int) < 4294967296 by decide⟩
    · exact zh0 _
  split
  · split
    · exact ⟨show (0 : Int) ≤ 0 by decide, show (0 : Int) < 4294967296 by decide⟩
    · exact ⟨show (0 : Int) ≤ 0 by decide, show (0 : Int) < 4294967296 by decide⟩
  split
  · exact ⟨by decide, by decide⟩
  · rename_i h
    cases hf : namesL.find? (enS c t.text) with
    | none => rw [hf] at h; exact absurd rfl h
    | some x => exact of_decide_eq_true (List.all_eq_true.1 zt9 x (List.mem_of_find?_eq_some hf))
theorem zot {fm : FormL} {bound : Int} (hb : bound ≤ 65536) : ∀ (l : List TokL) (k : Nat), ∀ a ∈ (zcQ fm bound k l).1, 0 ≤ a.n ∧ a.n < 4294967296
  | [], k, a, h => by cases h
  | t :: r, k, a, h => by
    unfold zcQ at h
    split at h
    · cases h
    · rcases List.mem_cons.1 h with rfl | h
      · exact zwz hb
      · exact zot hb r (k + 1) a h
theorem zr9 {n bound : Int} {l : List TokL} {fm : FormL} (hfm : zbq fm.op = fm) (hb : bound ≤ 65536) (h : (zgq n l bound fm).2.2.1 = 0) : (zgq n l bound fm).2.1 = true ∧ zbu bound (zgq n l bound fm).1 = 0 ∧ (zgq n l bound fm).1.U32 ∧ (zgq n l bound fm).2.2 = (0, 0) := by
  unfold zgq at h ⊢
  split at h
  · cases h
  rename_i h1
  rw [if_neg h1]
  split at h
  · cases h
  rename_i h2
  rw [if_neg h2]
  split at h
  · cases h
  rename_i h3
  rw [if_neg h3]
  split at h
  · cases h
  rename_i h4
  rw [if_neg h4]
  split at h
  · cases h
  rename_i h5
  rw [if_neg h5]
  split at h
  · rename_i h6; exact absurd h h6
  rename_i h6
  rw [if_neg h6]
  split at h
  · cases h
  rename_i h7
  rw [if_neg h7]
  split at h
  · cases h
  rename_i h8
  rw [if_neg h8]
  have e1 := Nn h1
  have hres : decide ((l.getD 0 zaR).kind = 2) = true → 1 ≤ (if (l.getD 0 zaR).kind = 2 then idL (l.getD 0 zaR).text bound else 0) ∧ (if (l.getD 0 zaR).kind = 2 then idL (l.getD 0 zaR).text bound else 0) < bound := fun hk => by
    have hk := of_decide_eq_true hk
    rw [if_pos hk]; exact zn0 fun e => h2 ⟨hk, e⟩
  have hres0 : decide ((l.getD 0 zaR).kind = 2) = false → (if (l.getD 0 zaR).kind = 2 then idL (l.getD 0 zaR).text bound else 0) = 0 := fun hk => if_neg (of_decide_eq_false hk)
  have hty : fm.ty = true → 1 ≤ (if fm.ty = true then idL (l.getD (zi6 l + 1) zaR).text bound else 0) ∧ (if fm.ty = true then idL (l.getD (zi6 l + 1) zaR).text bound else 0) < bound := fun hk => by
    rw [if_pos hk]; exact zn0 fun e => h5 ⟨hk, e⟩
  have hty0 : fm.ty = false → (if fm.ty = true then idL (l.getD (zi6 l + 1) zaR).text bound else 0) = 0 := fun hk => if_neg (by rw [hk]; simp)
  have hf := zlz (ty := if fm.ty = true then idL (l.getD (zi6 l + 1) zaR).text bound else 0) (res := if (l.getD 0 zaR).kind = 2 then idL (l.getD 0 zaR).text bound else 0) hfm e1 hres hres0 hty hty0 (Nn h6) (by simpa using h7)
  refine ⟨rfl, by rw [hf, if_neg h8], ⟨?_, ?_, zot hb _ _⟩, rfl⟩
  · dsimp only
    cases ht : fm.ty with
    | false => rw [if_neg (by simp)]; exact ⟨by decide, by decide⟩
    | true => have := hty ht; rw [ht] at this; rw [if_pos rfl] at this ⊢; omega
  · dsimp only
    by_cases hk : (l.getD 0 zaR).kind = 2
    · have := hres (Dt hk); omega
    · rw [if_neg hk]; exact ⟨by decide, by decide⟩
theorem zlB {x : Tx} {bound : Int} (hb : bound ≤ 65536) (h : (zaT x bound).2.2.1 = 0) : (zaT x bound).2.2 = (0, 0) ∧ ((zaT x bound).2.1 = true → zbu bound (zaT x bound).1 = 0 ∧ (zaT x bound).1.U32) := by
  unfold zaT at h ⊢
  split at h
  · rename_i h1; exact absurd h h1
  rename_i h1
  rw [if_neg h1]
  unfold zcV at h ⊢
  split at h
  · rename_i h2
    rw [if_pos h2]; exact ⟨rfl, fun q => by cases q⟩
  rename_i h2
  rw [if_neg h2]
  split at h
  · cases h
  rename_i h3
  rw [if_neg h3]
  split at h
  · cases h
  rename_i h4
  rw [if_neg h4]
  split at h
  · cases h
  rename_i h5
  rw [if_neg h5]
  split at h
  · cases h
  rename_i h6
  rw [if_neg h6]
  split at h
  · cases h
  rename_i h7
  rw [if_neg h7]
  cases hf : refT.find? (nmF ((za7 x).1.getD (zi6 (za7 x).1) zaR).text) with
  | none => rw [hf] at h7; exact absurd rfl h7
  | some fm =>
    rw [hf, Option.getD_some] at h
    rw [Option.getD_some]
    have hg := zr9 (zob hf).2.1 hb h
    exact ⟨hg.2.2.2, fun _ => ⟨hg.2.1, hg.2.2.1⟩⟩
structure PaG (s : PaL) : Prop where
  none : s.words = 0 → s.insts = []
  gn : 0 ≤ s.gn ∧ s.gn < 4294967296
  bd : s.words ≠ 0 → 1 ≤ s.bd ∧ s.bd ≤ 65536
  words : s.words ≠ 0 → s.words = 5 + (s.insts.map fun i => zbT (zbq i.op) i.args).sum
  le : s.words ≤ 1048576
  ok : ∀ i ∈ s.insts, zbu s.bd i = 0 ∧ i.U32
theorem zse {n : Int} {l : List TokL} (h : (zcK n l).2.1 = 0) : (0 ≤ (zcK n l).1.1 ∧ (zcK n l).1.1 < 4294967296) ∧ (1 ≤ (zcK n l).1.2 ∧ (zcK n l).1.2 ≤ 65536) ∧ (zcK n l).2 = (0, 0) := by
  unfold zcK at h ⊢
  split at h
  · cases h
  rename_i h1
  rw [if_neg h1]
  split at h
  · cases h
  rename_i h2
  rw [if_neg h2]
  split at h
  · cases h
  rename_i h3
  rw [if_neg h3]
  split at h
  · cases h
  rename_i h4
  rw [if_neg h4]
  split at h
  · rename_i q; exact absurd h q
  rename_i h5
  rw [if_neg h5]
  split at h
  · cases h
  rename_i h6
  rw [if_neg h6]
  split at h
  · cases h
  rename_i h7
  rw [if_neg h7]
  split at h
  · rename_i q; exact absurd h q
  rename_i h8
  rw [if_neg h8]
  split at h
  · cases h
  rename_i h9
  rw [if_neg h9]
  split at h
  · cases h
  rename_i h10
  rw [if_neg h10]
  exact ⟨zh0 _, by dsimp only; omega, rfl⟩
theorem zsf {x : Tx} (h : (zcf x).2.1 = 0) : (0 ≤ (zcf x).1.1 ∧ (zcf x).1.1 < 4294967296) ∧ (1 ≤ (zcf x).1.2 ∧ (zcf x).1.2 ≤ 65536) ∧ (zcf x).2 = (0, 0) := by
  unfold zcf at h ⊢
  split at h
  · rename_i q; exact absurd h q
  rename_i h1
  rw [if_neg h1]
  exact zse h
theorem PaG.start : PaG ⟨0, 0, 0, []⟩ := ⟨fun _ => rfl, ⟨by decide, by decide⟩, fun h => absurd rfl h, fun h => absurd rfl h, by decide, fun i h => by cases h⟩
theorem PaG.step {s s' : PaL} {x : Tx} (g : PaG s) (h : zkL x s = .ok s') : PaG s' := by
  unfold zkL at h
  split at h
  · rename_i h0
    split at h
    · cases h; exact g
    · split at h
      · cases h
      · rename_i h2
        cases h
        have hg := zsf (Nn h2)
        exact ⟨fun q => (by cases q), hg.1, fun _ => hg.2.1, fun _ => rfl, show (5 : Nat) ≤ 1048576 by decide, fun i hi => (by cases hi)⟩
  · rename_i h0
    split at h
    · cases h
    · rename_i h1
      have hg := zlB (g.bd h0).2 (Nn h1)
      split at h
      · cases h; exact g
      · rename_i h2
        split at h
        · cases h
        · rename_i h3
          cases h
          have hi := hg.2 (by simpa using h2)
          refine ⟨fun q => absurd q (by dsimp only; omega), g.gn, fun _ => g.bd h0, fun _ => ?_, by dsimp only; omega, fun i hi2 => ?_⟩
          · have := g.words h0
            dsimp only
            rw [List.map_append, List.sum_append, List.map_singleton, List.sum_singleton]; omega
          · rcases List.mem_append.1 hi2 with hi2 | hi2
            · exact g.ok i hi2
            · obtain rfl := List.mem_singleton.1 hi2; exact hi
end Go.SK
namespace Go.SK
section
variable {c bound : Int} {t : TokL}
theorem zoy : zb9 0 t bound = (zeroA, 70) := if_pos (.inl rfl)
end
end Go.SK
namespace Go.SK
section
variable {n bound : Int} {l : List TokL} {m : Nat} {fm : FormL} {res ty : Int} {q j : Nat} {ags : List ArgP}
structure LnA (l : List TokL) (m : Nat) : Prop where
  h0 : 0 < l.length
  k5 : (l.getD 0 zaR).kind = 2 → 1 < l.length ∧ (l.getD 1 zaR).kind = 5 ∧ m = 2
  k0 : ¬ (l.getD 0 zaR).kind = 2 → m = 0
theorem LnA.start (h0 : 0 < l.length) (h : ¬ (l.getD 0 zaR).kind = 2) : LnA l 0 := ⟨h0, fun q => absurd q h, fun _ => rfl⟩
theorem LnA.said (h : (l.getD 0 zaR).kind = 2) (h1 : 1 < l.length) (h5 : (l.getD 1 zaR).kind = 5) : LnA l 2 := ⟨by omega, fun _ => ⟨h1, h5, rfl⟩, fun q => absurd h q⟩
theorem LnA.le (h : LnA l m) : m ≤ l.length := by
  by_cases hk : (l.getD 0 zaR).kind = 2
  · have := h.k5 hk; omega
  · have := h.k0 hk; omega
theorem LnA.at (h : LnA l m) : zi6 l = m := by
  unfold zi6
  by_cases hk : (l.getD 0 zaR).kind = 2
  · rw [if_pos hk, (h.k5 hk).2.2]
  · rw [if_neg hk, h.k0 hk]
theorem LnA.rest (h : LnA l m) : zcV n l bound = if l.length = m then (zeroIL, false, (72, n)) else if (l.getD m zaR).kind ≠ 1 then (zeroIL, false, (70, (l.getD m zaR).at_))
    else if (refT.find? (nmF (l.getD m zaR).text)).isSome = false then (zeroIL, false, (71, (l.getD m zaR).at_))
    else zgq n l bound ((refT.find? (nmF (l.getD m zaR).text)).getD zeroF) := by
  have h0 := h.h0
  unfold zcV
  rw [h.at]
  by_cases hk : (l.getD 0 zaR).kind = 2
  · obtain ⟨h1, h5, rfl⟩ := h.k5 hk
    rw [if_neg (by omega), if_neg (fun q => by omega), if_neg (fun q => q.2 h5)]
    by_cases h2 : l.length = 2
    · rw [if_pos ⟨hk, h2⟩, if_pos h2]
    · rw [if_neg (fun q => h2 q.2), if_neg h2]
  · obtain rfl := h.k0 hk
    rw [if_neg (by omega), if_neg (fun q => hk q.1), if_neg (fun q => hk q.1), if_neg (fun q => hk q.1)]
    conv => rhs; rw [if_neg (show ¬ l.length = 0 by omega)]
structure LnB (l : List TokL) (m : Nat) (fm : FormL) : Prop where
  a : LnA l m
  lt : m < l.length
  k1 : (l.getD m zaR).kind = 1
  fd : refT.find? (nmF (l.getD m zaR).text) = some fm
theorem LnB.op (h : LnB l m fm) : zbq fm.op = fm := (zob h.fd).2.1
theorem LnB.rest (h : LnB l m fm) : zcV n l bound = zgq n l bound fm := by
  rw [h.a.rest, if_neg (by have := h.lt; omega), if_neg (fun q => q h.k1), h.fd, if_neg (by simp)]; rfl
structure LnC (bound : Int) (l : List TokL) (m : Nat) (fm : FormL) (res : Int) : Prop where
  b : LnB l m fm
  rs : fm.res = decide ((l.getD 0 zaR).kind = 2)
  r1 : (l.getD 0 zaR).kind = 2 → res = idL (l.getD 0 zaR).text bound ∧ res ≠ 0
  r0 : ¬ (l.getD 0 zaR).kind = 2 → res = 0
theorem LnC.pre (h : LnC bound l m fm res) : zcV n l bound = (if fm.ty = true ∧ l.length = m + 1 then (zeroIL, false, (72, n))
  else if fm.ty = true ∧ (l.getD (m + 1) zaR).kind ≠ 2 then (zeroIL, false, (70, (l.getD (m + 1) zaR).at_))
  else if fm.ty = true ∧ idL (l.getD (m + 1) zaR).text bound = 0 then (zeroIL, false, (43, (l.getD (m + 1) zaR).at_))
  else if (zcQ fm bound 0 (l.drop (m + 1 + b2n fm.ty))).2.1 ≠ 0 then (zeroIL, false, (zcQ fm bound 0 (l.drop (m + 1 + b2n fm.ty))).2)
  else if (zej fm.op ((zcQ fm bound 0 (l.drop (m + 1 + b2n fm.ty))).1.map ArgP.kind)).2 = false then (zeroIL, false, (72, n))
  else if zbT fm (zcQ fm bound 0 (l.drop (m + 1 + b2n fm.ty))).1 > 65535 then (zeroIL, false, (25, 0))
  else (⟨fm.op, if fm.ty = true then idL (l.getD (m + 1) zaR).text bound else 0, res, (zcQ fm bound 0 (l.drop (m + 1 + b2n fm.ty))).1⟩, true, (0, 0))) := by
  rw [h.b.rest]
  have e : (if (l.getD 0 zaR).kind = 2 then idL (l.getD 0 zaR).text bound else 0) = res := by
    by_cases hk : (l.getD 0 zaR).kind = 2
    · rw [if_pos hk, (h.r1 hk).1]
    · rw [if_neg hk, h.r0 hk]
  unfold zgq
  rw [if_neg (fun q => q h.rs), if_neg (fun q => (h.r1 q.1).2 ((h.r1 q.1).1.trans q.2)), h.b.a.at, e]
structure LnI (bound : Int) (l : List TokL) (m : Nat) (fm : FormL) (res ty : Int) (q : Nat) : Prop where
  c : LnC bound l m fm res
  t1 : fm.ty = true → ty = idL (l.getD (m + 1) zaR).text bound ∧ ty ≠ 0 ∧ m + 1 < l.length ∧ (l.getD (m + 1) zaR).kind = 2
  t0 : fm.ty = false → ty = 0
  qe : q = m + 1 + b2n fm.ty
theorem LnI.le (h : LnI bound l m fm res ty q) : q ≤ l.length := by
  have h1 := h.c.b.lt
  have h2 := h.qe
  cases ht : fm.ty with
  | false => rw [ht] at h2; unfold b2n at h2; simp at h2; omega
  | true => have := h.t1 ht; rw [ht] at h2; unfold b2n at h2; simp at h2; omega
theorem LnI.rest (h : LnI bound l m fm res ty q) : zcV n l bound = (if (zcQ fm bound 0 (l.drop q)).2.1 ≠ 0 then (zeroIL, false, (zcQ fm bound 0 (l.drop q)).2)
  else if (zej fm.op ((zcQ fm bound 0 (l.drop q)).1.map ArgP.kind)).2 = false then (zeroIL, false, (72, n))
  else if zbT fm (zcQ fm bound 0 (l.drop q)).1 > 65535 then (zeroIL, false, (25, 0))
  else (⟨fm.op, ty, res, (zcQ fm bound 0 (l.drop q)).1⟩, true, (0, 0))) := by
  rw [h.c.pre, ← h.qe]
  have e : (if fm.ty = true then idL (l.getD (m + 1) zaR).text bound else 0) = ty := by
    by_cases ht : fm.ty = true
    · rw [if_pos ht, (h.t1 ht).1]
    · rw [if_neg ht, h.t0 (by simpa using ht)]
  rw [if_neg (fun q => by have := (h.t1 q.1).2.2.1; omega), if_neg (fun q => q.2 (h.t1 q.1).2.2.2), if_neg (fun q => (h.t1 q.1).2.1 ((h.t1 q.1).1.trans q.2)), e]
theorem LnI.bad (h : LnI bound l m fm res ty q) (hA : ArI fm bound l q j ags) (hj : q + j < l.length) (he : (zb9 (zaP fm j) (l.getD (q + j) zaR) bound).2 ≠ 0) : zcV n l bound = (zeroIL, false, ((zb9 (zaP fm j) (l.getD (q + j) zaR) bound).2, (l.getD (q + j) zaR).at_)) := by
  have hb := hA.bad hj he
  rw [h.rest, if_pos (by rw [hb]; exact he), hb]
theorem LnI.zero (h : LnI bound l m fm res ty q) (hA : ArI fm bound l q j ags) (hj : q + j < l.length) (hc : zaP fm j = 0) : zcV n l bound = (zeroIL, false, (70, (l.getD (q + j) zaR).at_)) := by
  have e : zb9 (zaP fm j) (l.getD (q + j) zaR) bound = (zeroA, 70) := by rw [hc]; exact zoy
  rw [h.bad hA hj (by rw [e]; decide), e]
theorem LnI.fit (h : LnI bound l m fm res ty q) (hA : ArI fm bound l q j ags) (hj : l.length ≤ q + j) (hf : (zej fm.op (ags.map ArgP.kind)).2 = true) : zcV n l bound = (if zbT fm ags > 65535 then (zeroIL, false, (25, 0)) else (⟨fm.op, ty, res, ags⟩, true, (0, 0))) ∧ zbu bound ⟨fm.op, ty, res, ags⟩ = if zbT fm ags > 65535 then 25 else 0 := by
  have hfin := hA.fin hj
  refine ⟨by rw [h.rest, hfin, if_neg (by simp), if_neg (by rw [hf]; simp)], ?_⟩
  have := zlz (fm := fm) (bound := bound) (said := fm.res) (ty := ty) (res := res) (l := l.drop q) h.c.b.op rfl (fun hr => by
      rw [h.c.rs] at hr
      have h1 := h.c.r1 (of_decide_eq_true hr)
      rw [h1.1]; exact zn0 (by rw [← h1.1]; exact h1.2)) (fun hr => by
      rw [h.c.rs] at hr
      exact h.c.r0 (of_decide_eq_false hr)) (fun ht => by
      have h1 := h.t1 ht
      rw [h1.1]; exact zn0 (by rw [← h1.1]; exact h1.2.1)) h.t0 (by rw [hfin]) (by rw [hfin]; exact hf)
  rw [hfin] at this
  exact this
end
end Go.SK
namespace Go.SK
open Go.RowKit
theorem zvk (l : List TokL) : ∀ q, wsz (l.drop q) ≤ wsz l := fun q => by
  induction q with
  | zero => exact Nat.le_refl _
  | succ q ih =>
    rcases Nat.lt_or_ge q l.length with h | h
    · have := zlW h; omega
    · rw [List.drop_eq_nil_of_le (by omega)]; exact Nat.zero_le _
section
variable {n bound : Int} {l : List TokL} {m : Nat} {fm : FormL} {res ty : Int} {q j : Nat} {ags : List ArgP}
theorem ArI.small {N : Nat} (h : ArI fm bound l q j ags) (hts : wsz l ≤ 7 * N) (hll : l.length ≤ N) (hN : N ≤ 16777216) : (ags.map za1).sum ≤ 900000000 ∧ ∀ a ∈ ags, a.s.length ≤ 100000000000 := by
  have h1 := h.sum
  have h2 := h.le
  have h3 := zvk l q
  refine ⟨by omega, fun a ha => ?_⟩
  have := h.tx a ha
  omega
theorem LnI.good (h : LnI bound l m fm res ty q) (hA : ArI fm bound l q j ags) (hj : l.length ≤ q + j) (hf : (zej fm.op (ags.map ArgP.kind)).2 = true) {re : Int} (hre : re = zbu bound ⟨fm.op, ty, res, ags⟩) (h0 : re = 0) : zcV n l bound = (⟨fm.op, ty, res, ags⟩, true, (0, 0)) := by
  have h1 := h.fit (n := n) hA hj hf
  rw [h1.2, h0] at hre
  by_cases hr : zbT fm ags > 65535
  · rw [if_pos hr] at hre; cases hre
  · rw [h1.1, if_neg hr]
end
end Go.SK
namespace Go.SK
open Go.RowKit
def InstL.Sm (i : InstL) : Prop := (i.args.map za1).sum ≤ 900000000 ∧ (∀ a ∈ i.args, a.s.length ≤ 100000000000) ∧ (0 ≤ i.op ∧ i.op < 65536)
end Go.SK
namespace Go.SK
def nls : Tx → Nat
  | [] => 0
  | c :: r => (if c.toNat = 10 then 1 else 0) + nls r
theorem zfp : ∀ (a b : Tx), nls (a ++ b) = nls a + nls b
  | [], b => by simp [nls]
  | c :: a, b => by rw [List.cons_append, nls, nls, zfp a b, Nat.add_assoc]
theorem zgU {t : Tx} {i : Nat} (h : i < t.length) : nls (t.take (i + 1)) = nls (t.take i) + (if (t.getD i 0).toNat = 10 then 1 else 0) := by
  rw [zc4 (d := 0) h, zfp]; simp [nls]
theorem zjp (t : Tx) {i j : Nat} (h : i ≤ j) : nls (t.take i) ≤ nls (t.take j) := by
  have e : t.take j = t.take i ++ (t.drop i).take (j - i) := by
    rw [← List.take_add, show i + (j - i) = j by omega]
  rw [e, zfp]; omega
theorem ztJ (t : Tx) : nls t ≤ t.length := by
  induction t with
  | nil => exact Nat.le_refl _
  | cons c r ih => rw [nls, List.length_cons]; split <;> omega
def endJ (t : Tx) (a : Int) (i : Nat) (ln : Int) (en : Nat) : Prop := ln = 1 + (nls (t.take i) : Int) ∧ ((en = t.length ∧ ln ≤ a) ∨ (en < i ∧ (t.getD en 0).toNat = 10 ∧ (nls (t.take en) : Int) + 1 = a))
section
variable {t : Tx} {a ln : Int} {i en : Nat}
theorem endJ.start (h : 1 ≤ a) : endJ t a 0 1 t.length := ⟨by simp [nls], .inl ⟨rfl, h⟩⟩
theorem endJ.hit (h : endJ t a i ln en) (hi : i < t.length) (h10 : (t.getD i 0).toNat = 10) (h1 : ln = a) (h2 : en = t.length) : endJ t a (i + 1) (ln + 1) i := by
  have e := h.1
  refine ⟨by rw [zgU hi, if_pos h10]; omega, .inr ⟨by omega, h10, by omega⟩⟩
theorem endJ.at (h : endJ t a t.length ln en) {e : Nat} (he : e ≤ t.length) (hx : e = t.length ∨ (e < t.length ∧ (t.getD e 0).toNat = 10)) (hn : (nls (t.take e) : Int) + 1 = a) : en = e := by
  have e1 := h.1
  rcases h.2 with ⟨h2, h3⟩ | ⟨h2, h3, h4⟩
  · rcases hx with hx | ⟨hx, h10⟩
    · omega
    · have h5 := zgU hx
      have h6 := zjp t (i := e + 1) (j := t.length) Om
      rw [if_pos h10] at h5
      omega
  · have h5 := zgU h2
    rw [if_pos h3] at h5
    rcases hx with hx | ⟨hx, h10⟩
    · have h6 := zjp t (i := en + 1) (j := e) Om
      omega
    · have h7 := zgU hx
      rw [if_pos h10] at h7
      rcases Nat.lt_trichotomy e en with hlt | heq | hlt
      · have := zjp t (i := e + 1) (j := en) Om; omega
      · exact heq.symm
      · have := zjp t (i := en + 1) (j := e) Om; omega
end
end Go.SK
namespace Go.SK
open Go.RowKit
structure PaM (t : Tx) (i : Nat) (gn bd : Int) (words : Nat) (dm : List InstP) : Prop where
  pi : PaI t i ⟨gn, bd, words, dm.map InstP.L⟩
  pg : PaG ⟨gn, bd, words, dm.map InstP.L⟩
  sm : ∀ x ∈ dm, x.L.Sm
section
variable {t : Tx} {i : Nat} {gn bd : Int} {words : Nat} {dm : List InstP}
theorem PaM.start : PaM t 0 0 0 0 [] := ⟨PaI.start, PaG.start, fun x h => by cases h⟩
theorem PaM.le (h : PaM t i gn bd words dm) : words ≤ 1048576 := h.pg.le
theorem PaM.len (h : PaM t i gn bd words dm) : dm.length ≤ words := by have := h.pi.small; rwa [List.length_map] at this
theorem PaM.to {gn' bd' : Int} {words' : Nat} {dm' : List InstP} (h : PaM t i gn bd words dm) (hi : i < (lnF t).length) (he : zkL ((lnF t).getD i []) ⟨gn, bd, words, dm.map InstP.L⟩ = .ok ⟨gn', bd', words', dm'.map InstP.L⟩) (hs : ∀ x ∈ dm', x.L.Sm) : PaM t (i + 1) gn' bd' words' dm' := ⟨h.pi.step hi he, h.pg.step he, hs⟩
theorem PaM.head (h : PaM t i gn bd words dm) (hi : i < (lnF t).length) (h0 : words = 0) (hn : ¬ ((za7 ((lnF t).getD i [])).2.1 = 0 ∧ (za7 ((lnF t).getD i [])).1.length = 0)) (he : ¬ (zcf ((lnF t).getD i [])).2.1 ≠ 0) : PaM t (i + 1) (zcf ((lnF t).getD i [])).1.1 (zcf ((lnF t).getD i [])).1.2 5 dm := by
  refine h.to hi ?_ h.sm
  have hd : dm.map InstP.L = [] := h.pg.none h0
  unfold zkL; dsimp only; rw [if_pos h0, if_neg hn, if_neg he, hd]
theorem PaM.skip (h : PaM t i gn bd words dm) (hi : i < (lnF t).length) (h0 : ¬ words = 0) (he : ¬ (zaT ((lnF t).getD i []) bd).2.2.1 ≠ 0) (hs : (zaT ((lnF t).getD i []) bd).2.1 = false) : PaM t (i + 1) gn bd words dm := by
  refine h.to hi ?_ h.sm
  unfold zkL; dsimp only; rw [if_neg h0, if_neg he, if_pos hs]
end
end Go.SK
namespace Go.SK
open Go.RowKit
structure PaR (t : Tx) (i : Nat) (hd : Bool) (gn bd : Int) (wd : Nat) (dm : List InstP) : Prop where
  m : PaM t i gn bd (if hd = true then wd else 0) dm
  w0 : hd = false → wd = 5
  w1 : hd = true → wd ≠ 0
section
variable {t : Tx} {i : Nat} {hd : Bool} {gn bd : Int} {wd : Nat} {dm : List InstP}
theorem PaR.off (h : PaR t i false gn bd wd dm) : PaM t i gn bd 0 dm := h.m
theorem PaR.on (h : PaR t i true gn bd wd dm) : PaM t i gn bd wd dm := h.m
theorem PaR.le (h : PaR t i hd gn bd wd dm) : wd ≤ 1048576 := by
  cases hd with
  | false => have := h.w0 rfl; omega
  | true => exact h.on.le
theorem PaR.len (h : PaR t i hd gn bd wd dm) : dm.length ≤ 1048576 := by
  have h1 := h.m.len
  have h2 := h.m.le
  omega
end
end Go.SK
namespace Go.SK
structure HdI (l : List TokL) (k : Nat) (gn bd : Int) : Prop where
  le : k ≤ 3 ∧ k ≤ l.length
  k0 : 0 < k → (l.getD 0 zaR).kind = 1 ∧ (l.getD 0 zaR).text = modW
  k1 : 1 < k → (l.getD 1 zaR).kind = 3 ∧ (zba (l.getD 1 zaR).text).2 = 0 ∧ gn = (zba (l.getD 1 zaR).text).1
  k2 : 2 < k → (l.getD 2 zaR).kind = 3 ∧ (zba (l.getD 2 zaR).text).2 = 0 ∧ bd = (zba (l.getD 2 zaR).text).1 ∧ ¬ (bd < 1 ∨ 65536 < bd)
section
variable {n : Int} {l : List TokL} {k : Nat} {gn bd : Int}
theorem HdI.start (l : List TokL) : HdI l 0 0 0 := ⟨⟨by decide, Nat.zero_le _⟩, fun h => absurd h De, fun h => absurd h De, fun h => absurd h De⟩
theorem HdI.from1 (h : HdI l k gn bd) (h1 : 0 < k) (hl : 1 < l.length) : zcK n l =
    if (l.getD 1 zaR).kind ≠ 3 then ((0, 0), (70, (l.getD 1 zaR).at_))
    else if (zba (l.getD 1 zaR).text).2 ≠ 0 then ((0, 0), ((zba (l.getD 1 zaR).text).2, (l.getD 1 zaR).at_))
    else if l.length = 2 then ((0, 0), (72, n))
    else if (l.getD 2 zaR).kind ≠ 3 then ((0, 0), (70, (l.getD 2 zaR).at_))
    else if (zba (l.getD 2 zaR).text).2 ≠ 0 then ((0, 0), ((zba (l.getD 2 zaR).text).2, (l.getD 2 zaR).at_))
    else if (zba (l.getD 2 zaR).text).1 < 1 ∨ 65536 < (zba (l.getD 2 zaR).text).1 then ((0, 0), (24, (l.getD 2 zaR).at_))
    else if 3 < l.length then ((0, 0), (70, (l.getD 3 zaR).at_))
    else (((zba (l.getD 1 zaR).text).1, (zba (l.getD 2 zaR).text).1), (0, 0)) := zkg (h.k0 h1).1 (h.k0 h1).2 hl
theorem HdI.from2 (h : HdI l k gn bd) (h1 : 1 < k) (hl : 2 < l.length) : zcK n l =
    if (l.getD 2 zaR).kind ≠ 3 then ((0, 0), (70, (l.getD 2 zaR).at_))
    else if (zba (l.getD 2 zaR).text).2 ≠ 0 then ((0, 0), ((zba (l.getD 2 zaR).text).2, (l.getD 2 zaR).at_))
    else if (zba (l.getD 2 zaR).text).1 < 1 ∨ 65536 < (zba (l.getD 2 zaR).text).1 then ((0, 0), (24, (l.getD 2 zaR).at_))
    else if 3 < l.length then ((0, 0), (70, (l.getD 3 zaR).at_))
    else ((gn, (zba (l.getD 2 zaR).text).1), (0, 0)) := by
  obtain ⟨q1, q2, q3⟩ := h.k1 h1
  rw [h.from1 (by omega) (by omega), if_neg (fun q => q q1), if_neg (fun q => q q2), if_neg (by omega), ← q3]
theorem HdI.from3 (h : HdI l k gn bd) (h1 : 2 < k) (hl : 2 < l.length) : zcK n l =
    if 3 < l.length then ((0, 0), (70, (l.getD 3 zaR).at_)) else ((gn, bd), (0, 0)) := by
  obtain ⟨q1, q2, q3, q4⟩ := h.k2 h1
  rw [h.from2 (by omega) hl, if_neg (fun q => q q1), if_neg (fun q => q q2), ← q3, if_neg q4]
theorem HdI.num (h : HdI l k gn bd) (hk : 0 < k) (h3 : ¬ k = 3) (hl : k < l.length) (hb : (l.getD k zaR).kind = 3) (hn : (zba (l.getD k zaR).text).2 ≠ 0) : zcK n l = ((0, 0), ((zba (l.getD k zaR).text).2, (l.getD k zaR).at_)) := by
  have hle := h.le
  rcases (show k = 1 ∨ k = 2 by omega) with rfl | rfl
  · rw [h.from1 (by omega) (by omega), if_neg (fun q => q hb), if_pos hn]
  · rw [h.from2 (by omega) (by omega), if_neg (fun q => q hb), if_pos hn]
theorem HdI.bound (h : HdI l k gn bd) (hk : k = 2) (hl : k < l.length) (hb : (l.getD k zaR).kind = 3) (hn : (zba (l.getD k zaR).text).2 = 0) (hq : (zba (l.getD k zaR).text).1 < 1 ∨ 65536 < (zba (l.getD k zaR).text).1) : zcK n l = ((0, 0), (24, (l.getD k zaR).at_)) := by
  subst hk
  rw [h.from2 (by omega) (by omega), if_neg (fun q => q hb), if_neg (fun q => q hn), if_pos hq]
theorem HdI.step1 (h : HdI l k gn bd) (hk : k = 1) (hl : k < l.length) (hb : (l.getD k zaR).kind = 3) (hn : (zba (l.getD k zaR).text).2 = 0) : HdI l (k + 1) (zba (l.getD k zaR).text).1 bd := by
  subst hk
  exact ⟨⟨by omega, by omega⟩, fun _ => h.k0 Om, fun _ => ⟨hb, hn, rfl⟩, fun q => absurd q Om⟩
theorem HdI.fin (h : HdI l k gn bd) (hl : l.length ≤ k) (h3 : ¬ l.length < 3) : zcK n l = ((gn, bd), (0, 0)) := by
  have hle := h.le
  rw [h.from3 (by omega) (by omega), if_neg (by omega)]
end
end Go.SK
namespace Go.SK
open Go Go.Proofs
theorem ty3 : TyF Tryz.prog 3 (.int .i64) 1 8 [.int .i64 0] := zbK Kr Kr
theorem ent195 : zaN Tryz.prog 195 := ⟨Tryz.f195, _, Tryz.func195, Kr, rfl⟩
theorem zxw : TyF Tryz.prog 258 (.array 24 5) 24 24 [.int .u8 0, .int .u8 0, .int .u8 0, .int .u8 0, .int .u8 0, .int .u8 0, .int .u8 0, .int .u8 0, .int .u8 0, .int .u8 0, .int .u8 0, .int .u8 0, .int .u8 0, .int .u8 0, .int .u8 0, .int .u8 0, .int .u8 0, .int .u8 0, .int .u8 0, .int .u8 0, .int .u8 0, .int .u8 0, .int .u8 0, .int .u8 0] := zbK Kr Kr
theorem ent196 : zaN Tryz.prog 196 := ⟨Tryz.f196, _, Tryz.func196, Kr, rfl⟩
theorem ent197 : zaN Tryz.prog 197 := ⟨Tryz.f197, _, Tryz.func197, Kr, rfl⟩
theorem zcr : TyF Tryz.prog 38 (.slice 5) 1 24 [.slice none 0 0] := zbK Kr Kr
theorem ent151 : zaN Tryz.prog 151 := ⟨Tryz.f151, _, Tryz.func151, Kr, rfl⟩
end Go.SK
namespace Go.SK
open Go Go.Proofs
open Go.RowKit
theorem lx_FB (b u k : Nat) (xs : List Value) (hx : xs = List.replicate 24 (Value.int .u8 0)) (w : World) (hR : (Res.row b 258 xs).holds w) (hk : k = Lib.nDigits u) (hu : u < 4294967296) : Ret Tryz.prog 197 #[.slice (some ⟨b, 0, none⟩) k 24, .int .u64 (u : Int)] w (fun v w' => ∃ ys, (ys.drop 0).take k = (Lib.decDigits u).flatMap byC ∧ v = .tuple #[] ∧ St w (Res.row b 258 xs).foot [Res.row b 258 ys] [] w') := by
 have h10 : Lib.nDigits u ≤ 10 := zgV (u := u) (k := 9) Om
 have hsz : (Array.replicate k (0 : UInt8)).size = k := by simp
 have hpow := Lib.lt_pow_nDigits u
 have hc := Any.internal_strconv_formatBase10 zr2 b 0 24 u (Array.replicate k (0 : UInt8)) w (fun j hj => ?_) (by rw [hsz, hk]; exact hpow) (by omega) (by rw [hsz]; omega)
 ·rw [hsz] at hc
  refine Calls.mono hc ?_
  rintro e w' ⟨he, n, v', dk, rfl, hf⟩
  obtain ⟨hkp, hnew⟩ := zpu (fun (b : UInt8) => Value.int .u8 (b.toNat : Int)) w b 0 dk n hR
  refine ⟨_, he, _, ?_, rfl, (St.enter1 hR (fun d hd => by cases hd) (fun d hd => by cases hd)).upd .here hkp (r' := Res.row b 258 (Sort.putCells (fun (b : UInt8) => Value.int .u8 (b.toNat : Int)) 0 dk xs.toArray).toList) ?_ (fun c hc => .inl hc)⟩
  ·rw [List.drop_zero]; exact zxU hf hk xs (by rw [hx, List.length_replicate]; omega)
  ·show _ = some _
   rw [hnew]
 ·rw [hsz] at hj
  have hR' : w.heap[b]? = some (.cells xs.toArray 258 (0, 0)) := hR
  refine ⟨?_, by simp [World.frozen?, hR']⟩
  have hx2 : xs[j]? = some (.int .u8 0) := by rw [hx, List.getElem?_replicate, if_pos (by omega)]
  simp [World.cell?, hR', hx2, hj]
theorem zwI (u : Nat) (hu : u < 4294967296) (w : World) (hG : LxG.holds w) : Ret Tryz.prog 151 #[.int .u64 (u : Int), .int .i64 10] w (fun v w' => v = str (Lib.decDigits u) ∧ St w NoM [] [] w') := by
 refine zav (args := [.int .u64 (u : Int), .int .i64 10]) Tryz.func151 rfl rfl rfl ?_
 have hst : St w NoM [] [LxG] w := St.init_Ds (by simp only [List.forall_mem_cons]; exact ⟨hG, fun _ h => absurd h List.not_mem_nil⟩)
 have h10 : Lib.nDigits u ≤ 10 := zgV (u := u) (k := 9) Om
 have hpos := Lib.nDigits_pos u
 refine SR <| AS rfl <| NL <| SQ <| SR <| MI rfl <| CN <| zak rfl rfl <| NL <| zab rfl (fun g1 => ?_) (fun g1 => ?_)
 ·refine SQ <| SR <| CN <| zad (v := .int .u64 _) rfl <| CN <| zaS rfl rfl <| NL <| zab rfl (fun g2 => ?_) (fun g2 => ?_)
  ·refine SR <| CN (zad (v := .int .u64 _) rfl ?_)
   first | refine CN (zaY zbF ty3 rfl zbe ?_) | refine CN (za8 zbF ty3 rfl ?_)
   refine CN <| Op1.call1 (v1 := .int .i64 _) ent195 rfl rfl <| Ret.det (zvU u Om _) hst fun w hst => AS rfl <| NL <| zah Tryz.func151 rfl (TP (v := str _) rfl) ?_
   exact ⟨rfl, hst.pure⟩
  refine zaf <| SR <| CN <| Op1.alloc hst zxw fun w b5 hst => NSR <| CN <| zad (v := .int .u64 _) rfl <| CN <| Op1.call1 (v1 := .int .u64 _) ent196 rfl rfl <| Ret.det (znJ u _ (hst.hD _ Q0) Om Om) hst fun w hst => AI rfl <| NSR <| MI rfl <| CN (zhl (hi := Lib.nDigits u) zxw ty5 rfl rfl rfl Om ?_)
  refine CN <| zad (v := .int .u64 _) rfl <| CN (zaz (v1 := .slice _ _ _) (v2 := .int .u64 _) ent197 rfl rfl rfl ((lx_FB b5 u _ _ rfl _ (hst.hL _ Q0) rfl Om).mono fun v w hp => ?_))
  obtain ⟨ys, hys, rfl, hp⟩ := hp
  replace hst := hst.call1 hp
  clear hp
  replace hst : St _ _ [Res.row b5 258 ys] _ _ := hst
  refine NSR <| MI rfl <| CN <| zhl (hi := Lib.nDigits u) zxw ty5 rfl rfl rfl (by omega) <| CN <| zc7 (l := Lib.decDigits u) zcr ty5 ty9 rfl (zmH u).symm ⟨by rw [zei (es := 1) (fun _ => rfl), zmH, Nat.mul_one], .inr ⟨b5, 0, rfl, zac (n := Lib.nDigits u) (hst.objL Q0) _ hys⟩⟩ rfl <| AS rfl <| NL <| zah Tryz.func151 rfl (TP (v := str _) rfl) ?_
  exact ⟨rfl, hst.pure⟩
 exfalso
 exact g1 rfl
theorem zmX (u : Nat) (hu : u < 4294967296) (w : World) (hG : LxG.holds w) : Ret Tryz.prog 97 #[.int .u64 (u : Int), .int .i64 10] w (fun v w' => v = str (Lib.decDigits u) ∧ St w NoM [] [] w') := by
 refine zav (args := [.int .u64 (u : Int), .int .i64 10]) Tryz.func97 rfl rfl rfl ?_
 have hst : St w NoM [] [LxG] w := St.init_Ds (by simp only [List.forall_mem_cons]; exact ⟨hG, fun _ h => absurd h List.not_mem_nil⟩)
 refine SR <| AS rfl <| NSR <| CN <| zad (v := .int .u64 _) rfl <| MI rfl <| CN <| zaz (v1 := .int .u64 _) (v2 := .int .i64 _) ent151 rfl rfl rfl <| Ret.det (zwI u hu _ (hst.hD _ Q0)) hst fun w hst => AS rfl <| NL <| zah Tryz.func97 rfl (TP (v := str _) rfl) ?_
 exact ⟨rfl, hst.pure⟩
end Go.SK
namespace Go.SK
open Go Go.Proofs
theorem ziz : TyF Tryz.prog 251 (.int .i64) 1 8 [.int .i64 0] := zbK Kr Kr
theorem ty170 : TyF Tryz.prog 170 (.int .u64) 1 8 [.int .u64 0] := zbK Kr Kr
theorem zga : zaN Tryz.prog 187 := ⟨Tryz.f187, _, Tryz.func187, Kr, rfl⟩
end Go.SK
namespace Go.SK
open Go Go.Proofs
open Go.RowKit
theorem zsy (s : Tx) (hl : s.length ≤ 8) (w : World) : Ret Tryz.prog 144 #[str s, .int .i64 16, .int .i64 32] w (fun v w' => ((∃ n, s.length ≠ 0 ∧ zcJ s 0 = some n ∧ v = .tuple #[.int .u64 (n : Int), .nilIface]) ∨ ((s.length = 0 ∨ zcJ s 0 = none) ∧ v = .tuple #[.int .u64 0, .iface 251 (.int .i64 2)])) ∧ St w NoM [] [] w') := by
 refine zav (args := [str s, .int .i64 16, .int .i64 32]) Tryz.func144 rfl rfl rfl ?_
 have hst := St.init w
 refine SR <| CN <| Op1.assign (v := .int .u64 _) rfl <| CN <| Op1.assign (v := .nilIface) rfl <| NL <| SQ <| SR <| MS rfl <| CN <| zbV rfl rfl <| NL <| zab rfl (fun g1 => ?_) (fun g1 => ?_)
 ·refine SR <| CN <| zb5 (v := .int .i64 _) ziz rfl rfl <| CN <| Op1.assign (v := .int .u64 _) rfl <| CN <| Op1.assign (v := .iface _ _) rfl <| NL <| zai Tryz.func144 rfl (TP (v := .int .u64 _) rfl) (TP (v := .iface _ _) rfl) ?_
  subst g1
  exact ⟨.inr ⟨.inl rfl, rfl⟩, hst.pure⟩
 refine zaf <| SR <| MI rfl <| CN <| zak rfl rfl <| AB rfl <| NSR <| MS rfl <| AS rfl <| NL <| SQ <| zao <| SQ ?_
 refine RG <| MI rfl <| CN <| zbI rfl rfl <| MB rfl <| zan (d := 28) rfl (fun g2 => ?_) (fun g2 => ?_)
 ·refine TK (t := 28) rfl (Vb (Dt g2)) <| zad (v := .int .i64 _) rfl <| TK (t := 28) rfl (Vb (Dt g2)) <| zbI rfl rfl <| CN <| zap (u := .bool _) (Vb (Dt g2)) rfl <| AB rfl <| NL <| zab rfl (fun g3 => ?_) (fun g3 => ?_)
  ·refine zaf <| zam <| SQ <| SR <| MI rfl <| CN <| zak rfl rfl <| NL <| zab rfl (fun g4 => ?_) (fun g4 => ?_)
   ·exfalso
    omega
   refine SR <| MI rfl <| CN <| zaS rfl rfl <| MB rfl <| zan (d := 80) rfl (fun g5 => ?_) (fun g5 => ?_)
   ·exfalso
    omega
   refine TK (t := 80) rfl (Vb (Df g5)) <| zad (v := .int .i64 _) rfl <| TK (t := 80) rfl (Vb (Df g5)) <| zbm rfl rfl <| CN <| zaq (u := .bool _) (Vb (Df g5)) rfl <| NL <| zaj [(0, str _), (1, .int .i64 _), (2, .int .i64 _), (8, .bool _), (9, str _), (83, .bool _)] E6 fun f => zab rfl (fun g6 => ?_) (fun g6 => ?_)
   ·exfalso
    omega
   refine zaf <| SR <| CN <| Op1.assign (v := .int .u64 _) rfl <| NL <| SQ <| SR <| MI rfl <| NL <| zao <| SR <| CN <| zak rfl rfl <| AB rfl ?_
   refine NL <| zab rfl (fun g7 => ?_) (fun g7 => ?_)
   ·exfalso
    omega
   refine SR <| CN <| zak rfl rfl <| AB rfl <| NL <| zab rfl (fun g8 => ?_) (fun g8 => ?_)
   ·refine RG <| CN <| Op1.assign (v := .int .u64 _) rfl <| NL <| zam <| SR <| MI rfl ?_
    first | refine CN (zaY ty3 ty170 rfl zdV ?_) | refine CN (za8 ty3 ty170 rfl ?_)
    refine CN <| zrv (c := 4294967296) rfl rfl Om De De <| CN <| zbx rfl rfl rfl zdV <| CN <| Op1.assign (v := .int .u64 _) rfl <| NSR <| AB rfl <| NSR <| CN <| Op1.assign (v := .int .u64 _) rfl <| NL <| SQ <| SQ <| RG ?_
    refine MS rfl <| CN <| zo2 hst ty9 zcr ty5 rfl fun w by_ cpb hst => CN <| zaQ (rest := []) zcr rfl <| MI rfl <| NL <| zao <| zaV <| zaU [(1, .int .i64 _), (8, .bool _), (9, str _), (10, .int .u64 _), (11, .int .u64 _), (99, .slice _ _ _), (100, .int .i64 _)] E7 (fun (qq : Nat × Nat) => [(12, .bool false), (13, .int .u64 (qq.2 : Int)), (101, .int .i64 (qq.1 : Int))]) (fun (qq : Nat × Nat) => []) (fun (qq : Nat × Nat) => qq.1 ≤ s.length ∧ qq.2 < 16 ^ qq.1 ∧ zcJ s 0 = zcJ (s.drop qq.1) qq.2) (fun (qq : Nat × Nat) => s.length - qq.1) ((0, 0)) hst ⟨Nat.zero_le _, by decide, rfl⟩ E3 ?_
    intro ⟨i, n⟩ f w hst hJ ih9
    replace hst : St _ _ ([] ++ [_]) _ _ := hst
    replace hJ : i ≤ s.length ∧ n < 16 ^ i ∧ zcJ s 0 = zcJ (s.drop i) n := hJ
    refine za2 (sl := [(12, .bool false), (13, .int .u64 (n : Int)), (101, .int .i64 (i : Int))]) E3 ?_
    have hidx : (s.getD ((i : Int).toNat) 0).toNat = (s.getD i 0).toNat := rfl
    have hidl : bits .or .u8 ((s.getD ((i : Int).toNat) 0).toNat : Int) 32 = bits .or .u8 ((s.getD i 0).toNat : Int) 32 := rfl
    have hlow := zxO _ (s.getD i 0).toNat_lt
    refine SR <| CN <| zaS rfl rfl <| NL <| SQ <| zab rfl (fun g10 => ?_) (fun g10 => ?_)
    ·have hp16 := zmk (i := i) Om
     refine zaf <| SQ <| zao <| SR <| CN <| zaO zcr ty5 (hst.hL _ Q0) rfl rfl Om Om <| CN <| zae (v := .int .u8 _) ty5 rfl rfl (Res.rs2_cell (hst.hL _ Q0) (zcq (g := byC) (d := 0) ziM rfl Om)) <| AC rfl <| NSR <| AC rfl <| NL <| SQ <| zao ?_
     refine SR <| MC rfl <| CN <| zak rfl rfl <| MB rfl <| zan (d := 109) rfl (fun g11 => ?_) (fun g11 => ?_)
     ·refine TK (t := 109) rfl (Vb (Dt g11)) <| zad (v := .bool _) rfl <| CN <| zap (u := .bool _) (Vb (Dt g11)) rfl <| AB rfl <| NL <| zab rfl (fun g12 => ?_) (fun g12 => ?_)
      ·exfalso
       omega
      refine SR <| MC rfl <| CN <| zbI rfl rfl <| MB rfl <| zan (d := 115) rfl (fun g13 => ?_) (fun g13 => ?_)
      ·refine TK (t := 115) rfl (Vb (Dt g13)) <| zad (v := .int .u8 _) rfl <| TK (t := 115) rfl (Vb (Dt g13)) <| zbI rfl rfl <| CN <| zap (u := .bool _) (Vb (Dt g13)) rfl <| AB rfl <| NL <| zab rfl (fun g14 => ?_) (fun g14 => ?_)
       ·refine RG <| MC rfl <| CN <| zbx rfl rfl rfl Wu8 <| AC rfl <| NL <| zam <| zaj [(1, .int .i64 _), (8, .bool _), (9, str _), (10, .int .u64 _), (11, .int .u64 _), (12, .bool _), (13, .int .u64 _), (16, .int .u8 _), (99, .slice _ _ _), (100, .int .i64 _), (101, .int .i64 _)] E11 fun f => SQ <| SR <| MC rfl <| MI rfl ?_
        first | refine CN (zaY ty3 ty5 rfl Wu8 ?_) | refine CN (za8 ty3 ty5 rfl ?_)
        refine CN <| zbo rfl rfl <| NL <| zab rfl (fun g15 => ?_) (fun g15 => ?_)
        ·exfalso
         omega
        have hyd : zcY (s.getD i 0) = true := Dt Om
        have hwd : (zdO (s.getD i 0) : Int) = ((s.getD i 0).toNat : Int) - 48 := by have hq := of_decide_eq_true hyd; unfold zdO; split <;> (try split) <;> omega
        refine zaf <| SQ <| SR <| CN <| zad (v := .int .u64 _) rfl <| CN <| zad (v := .int .u64 _) rfl <| CN <| zbo rfl rfl <| NL <| zab rfl (fun g16 => ?_) (fun g16 => ?_)
        ·exfalso
         omega
        refine zaf <| SR <| CN <| zad (v := .int .u64 _) rfl <| MI rfl ?_
        first | refine CN (zaY ty3 zbF rfl zdV ?_) | refine CN (za8 ty3 zbF rfl ?_)
        refine CN <| zbP rfl rfl rfl zdV <| CN <| Op1.assign (v := .int .u64 _) rfl <| NSR <| CN <| zad (v := .int .u64 _) rfl <| MC rfl ?_
        first | refine CN (zaY ty5 zbF rfl zdV ?_) | refine CN (za8 ty5 zbF rfl ?_)
        refine CN <| zas rfl rfl rfl zdV <| CN <| Op1.assign (v := .int .u64 _) rfl <| NL <| SQ <| SR <| CN <| zad (v := .int .u64 _) rfl <| CN <| zad (v := .int .u64 _) rfl <| CN <| zaS rfl rfl <| MB rfl <| zan (d := 155) rfl (fun g17 => ?_) (fun g17 => ?_)
        ·exfalso
         omega
        refine TK (t := 155) rfl (Vb (Df g17)) <| zad (v := .int .u64 _) rfl <| TK (t := 155) rfl (Vb (Df g17)) <| zad (v := .int .u64 _) rfl <| TK (t := 155) rfl (Vb (Df g17)) <| zbm rfl rfl <| CN <| zaq (u := .bool _) (Vb (Df g17)) rfl <| NL <| zaj [(1, .int .i64 _), (8, .bool _), (9, str _), (10, .int .u64 _), (11, .int .u64 _), (12, .bool _), (17, .int .u64 _), (99, .slice _ _ _), (100, .int .i64 _), (101, .int .i64 _), (159, .bool _)] E11 fun f => zab rfl (fun g18 => ?_) (fun g18 => ?_)
        ·exfalso
         omega
        refine zaf <| RG <| CN <| zad (v := .int .u64 _) rfl <| CN <| Op1.assign (v := .int .u64 _) rfl <| NL <| zam <| RG <| CN <| zas rfl rfl rfl zbe <| MI rfl <| NL <| zay ?_
        exact ih9 ((i + 1, 16 * n + zdO (s.getD i 0))) _ w (by (try dsimp only); omega) hst (⟨by (try dsimp only); omega, by (try dsimp only); exact zc5 hJ.2.1 (zd5 hyd).2, by (try dsimp only); rw [hJ.2.2, zd4 (by omega) hyd]⟩) E7 ⟨rfl, (congrArg (Value.int .u64) (by (try dsimp only); omega)), (Vi (by (try dsimp only); omega)), trivial⟩
       refine SR <| MC rfl <| CN <| Op1.call1 (v1 := .int .u8 _) zga rfl rfl <| Ret.det (zdd _ _) hst fun w hst => CN <| zbI rfl rfl <| MB rfl <| zan (d := 125) rfl (fun g19 => ?_) (fun g19 => ?_)
       ·refine TK (t := 125) rfl (Vb (Dt g19)) <| zad (v := .int .u8 _) rfl <| TK (t := 125) rfl (Vb (Dt g19)) (Op1.call1 (v1 := .int .u8 _) zga rfl rfl ((zdd _ _).mono fun v w hp => ?_))
        obtain ⟨rfl, hp⟩ := hp
        replace hst := hst.keepc hp
        clear hp
        refine TK (t := 125) rfl (Vb (Dt g19)) <| zbI rfl rfl <| CN <| zap (u := .bool _) (Vb (Dt g19)) rfl <| AB rfl <| NL <| zaj [(1, .int .i64 _), (8, .bool _), (9, str _), (10, .int .u64 _), (11, .int .u64 _), (12, .bool _), (13, .int .u64 _), (15, .int .u8 _), (99, .slice _ _ _), (100, .int .i64 _), (101, .int .i64 _), (121, .bool _)] E12 fun f => zab rfl (fun g20 => ?_) (fun g20 => ?_)
        ·refine RG <| MC rfl <| CN <| Op1.call1 (v1 := .int .u8 _) zga rfl rfl <| Ret.det (zdd _ _) hst fun w hst => CN <| zbx rfl rfl rfl Wu8 <| CN <| zas rfl rfl rfl Wu8 <| AC rfl <| NL <| zam <| SQ <| SR <| MC rfl <| MI rfl ?_
         first | refine CN (zaY ty3 ty5 rfl Wu8 ?_) | refine CN (za8 ty3 ty5 rfl ?_)
         refine CN <| zbo rfl rfl <| NL <| zab rfl (fun g21 => ?_) (fun g21 => ?_)
         ·refine SR <| CN <| zb5 (v := .int .i64 _) ziz rfl rfl <| CN <| Op1.assign (v := .int .u64 _) rfl <| CN <| Op1.assign (v := .iface _ _) rfl <| NL <| zai Tryz.func144 rfl (TP (v := .int .u64 _) rfl) (TP (v := .iface _ _) rfl) ?_
          have hno : ¬ zcY (s.getD i 0) = true := fun hn => by have hn2 := of_decide_eq_true hn; omega
          exact ⟨.inr ⟨.inr (hJ.2.2.trans (zct Om hno)), rfl⟩, hst.pure⟩
         have hyd : zcY (s.getD i 0) = true := Classical.byContradiction fun hn => by have hn2 := of_decide_eq_false (Bool.not_eq_true _ ▸ hn); omega
         have hwd : (zdO (s.getD i 0) : Int) = bits .or .u8 ((s.getD i 0).toNat : Int) 32 - 87 := by have hq := of_decide_eq_true hyd; unfold zdO; split <;> (try split) <;> omega
         refine zaf <| SQ <| SR <| CN <| zad (v := .int .u64 _) rfl <| CN <| zad (v := .int .u64 _) rfl <| CN <| zbo rfl rfl <| NL <| zab rfl (fun g22 => ?_) (fun g22 => ?_)
         ·exfalso
          omega
         refine zaf <| SR <| CN <| zad (v := .int .u64 _) rfl <| MI rfl ?_
         first | refine CN (zaY ty3 zbF rfl zdV ?_) | refine CN (za8 ty3 zbF rfl ?_)
         refine CN <| zbP rfl rfl rfl zdV <| CN <| Op1.assign (v := .int .u64 _) rfl <| NSR <| CN <| zad (v := .int .u64 _) rfl <| MC rfl ?_
         first | refine CN (zaY ty5 zbF rfl zdV ?_) | refine CN (za8 ty5 zbF rfl ?_)
         refine CN <| zas rfl rfl rfl zdV <| CN <| Op1.assign (v := .int .u64 _) rfl <| NL <| zaj [(1, .int .i64 _), (8, .bool _), (9, str _), (10, .int .u64 _), (11, .int .u64 _), (12, .bool _), (13, .int .u64 _), (17, .int .u64 _), (99, .slice _ _ _), (100, .int .i64 _), (101, .int .i64 _)] E11 fun f => SQ <| SR <| CN <| zad (v := .int .u64 _) rfl <| CN <| zad (v := .int .u64 _) rfl <| CN <| zaS rfl rfl <| MB rfl <| zan (d := 155) rfl (fun g23 => ?_) (fun g23 => ?_)
         ·exfalso
          omega
         refine TK (t := 155) rfl (Vb (Df g23)) <| zad (v := .int .u64 _) rfl <| TK (t := 155) rfl (Vb (Df g23)) <| zad (v := .int .u64 _) rfl <| TK (t := 155) rfl (Vb (Df g23)) <| zbm rfl rfl <| CN <| zaq (u := .bool _) (Vb (Df g23)) rfl <| NL <| zab rfl (fun g24 => ?_) (fun g24 => ?_)
         ·exfalso
          omega
         refine zaf <| RG <| CN <| zad (v := .int .u64 _) rfl <| CN <| Op1.assign (v := .int .u64 _) rfl <| NL <| zam <| RG <| CN <| zas rfl rfl rfl zbe <| MI rfl <| NL <| zay ?_
         exact ih9 ((i + 1, 16 * n + zdO (s.getD i 0))) _ w (by (try dsimp only); omega) hst (⟨by (try dsimp only); omega, by (try dsimp only); exact zc5 hJ.2.1 (zd5 hyd).2, by (try dsimp only); rw [hJ.2.2, zd4 (by omega) hyd]⟩) E7 ⟨rfl, (congrArg (Value.int .u64) (by (try dsimp only); omega)), (Vi (by (try dsimp only); omega)), trivial⟩
        refine SR <| CN <| zb5 (v := .int .i64 _) ziz rfl rfl <| CN <| Op1.assign (v := .int .u64 _) rfl <| CN <| Op1.assign (v := .iface _ _) rfl <| NL <| zai Tryz.func144 rfl (TP (v := .int .u64 _) rfl) (TP (v := .iface _ _) rfl) ?_
        have hno : ¬ zcY (s.getD i 0) = true := fun hn => by have hn2 := of_decide_eq_true hn; omega
        exact ⟨.inr ⟨.inr (hJ.2.2.trans (zct Om hno)), rfl⟩, hst.pure⟩
       refine OM (t := 125) rfl (Vb (Df g19)) rfl <| OM (t := 125) rfl (Vb (Df g19)) rfl <| OM (t := 125) rfl (Vb (Df g19)) rfl <| CN <| zaq (u := .bool _) (Vb (Df g19)) rfl <| AB rfl <| NL <| zaj [(1, .int .i64 _), (8, .bool _), (9, str _), (10, .int .u64 _), (11, .int .u64 _), (12, .bool _), (13, .int .u64 _), (15, .int .u8 _), (99, .slice _ _ _), (100, .int .i64 _), (101, .int .i64 _), (121, .bool _)] E12 fun f => zat (Vb (rfl : false = _)) <| SR <| CN <| zb5 (v := .int .i64 _) ziz rfl rfl <| CN <| Op1.assign (v := .int .u64 _) rfl <| CN <| Op1.assign (v := .iface _ _) rfl <| NL <| zai Tryz.func144 rfl (TP (v := .int .u64 _) rfl) (TP (v := .iface _ _) rfl) ?_
       have hno : ¬ zcY (s.getD i 0) = true := fun hn => by have hn2 := of_decide_eq_true hn; omega
       exact ⟨.inr ⟨.inr (hJ.2.2.trans (zct Om hno)), rfl⟩, hst.pure⟩
      refine OM (t := 115) rfl (Vb (Df g13)) rfl <| OM (t := 115) rfl (Vb (Df g13)) rfl <| CN <| zaq (u := .bool _) (Vb (Df g13)) rfl <| AB rfl <| NL <| zat (Vb (rfl : false = _)) <| SR <| MC rfl <| CN <| Op1.call1 (v1 := .int .u8 _) zga rfl rfl <| Ret.det (zdd _ _) hst fun w hst => CN <| zbI rfl rfl <| MB rfl <| zan (d := 125) rfl (fun g25 => ?_) (fun g25 => ?_)
      ·refine TK (t := 125) rfl (Vb (Dt g25)) <| zad (v := .int .u8 _) rfl <| TK (t := 125) rfl (Vb (Dt g25)) (Op1.call1 (v1 := .int .u8 _) zga rfl rfl ((zdd _ _).mono fun v w hp => ?_))
       obtain ⟨rfl, hp⟩ := hp
       replace hst := hst.keepc hp
       clear hp
       refine TK (t := 125) rfl (Vb (Dt g25)) <| zbI rfl rfl <| CN <| zap (u := .bool _) (Vb (Dt g25)) rfl <| AB rfl <| NL <| zaj [(1, .int .i64 _), (8, .bool _), (9, str _), (10, .int .u64 _), (11, .int .u64 _), (12, .bool _), (13, .int .u64 _), (15, .int .u8 _), (99, .slice _ _ _), (100, .int .i64 _), (101, .int .i64 _), (121, .bool _)] E12 fun f => zab rfl (fun g26 => ?_) (fun g26 => ?_)
       ·refine RG <| MC rfl <| CN <| Op1.call1 (v1 := .int .u8 _) zga rfl rfl <| Ret.det (zdd _ _) hst fun w hst => CN <| zbx rfl rfl rfl Wu8 <| CN <| zas rfl rfl rfl Wu8 <| AC rfl <| NL <| zam <| SQ <| SR <| MC rfl <| MI rfl ?_
        first | refine CN (zaY ty3 ty5 rfl Wu8 ?_) | refine CN (za8 ty3 ty5 rfl ?_)
        refine CN <| zbo rfl rfl <| NL <| zab rfl (fun g27 => ?_) (fun g27 => ?_)
        ·refine SR <| CN <| zb5 (v := .int .i64 _) ziz rfl rfl <| CN <| Op1.assign (v := .int .u64 _) rfl <| CN <| Op1.assign (v := .iface _ _) rfl <| NL <| zai Tryz.func144 rfl (TP (v := .int .u64 _) rfl) (TP (v := .iface _ _) rfl) ?_
         have hno : ¬ zcY (s.getD i 0) = true := fun hn => by have hn2 := of_decide_eq_true hn; omega
         exact ⟨.inr ⟨.inr (hJ.2.2.trans (zct Om hno)), rfl⟩, hst.pure⟩
        have hyd : zcY (s.getD i 0) = true := Classical.byContradiction fun hn => by have hn2 := of_decide_eq_false (Bool.not_eq_true _ ▸ hn); omega
        have hwd : (zdO (s.getD i 0) : Int) = bits .or .u8 ((s.getD i 0).toNat : Int) 32 - 87 := by have hq := of_decide_eq_true hyd; unfold zdO; split <;> (try split) <;> omega
        refine zaf <| SQ <| SR <| CN <| zad (v := .int .u64 _) rfl <| CN <| zad (v := .int .u64 _) rfl <| CN <| zbo rfl rfl <| NL <| zab rfl (fun g28 => ?_) (fun g28 => ?_)
        ·exfalso
         omega
        refine zaf <| SR <| CN <| zad (v := .int .u64 _) rfl <| MI rfl ?_
        first | refine CN (zaY ty3 zbF rfl zdV ?_) | refine CN (za8 ty3 zbF rfl ?_)
        refine CN <| zbP rfl rfl rfl zdV <| CN <| Op1.assign (v := .int .u64 _) rfl <| NSR <| CN <| zad (v := .int .u64 _) rfl <| MC rfl ?_
        first | refine CN (zaY ty5 zbF rfl zdV ?_) | refine CN (za8 ty5 zbF rfl ?_)
        refine CN <| zas rfl rfl rfl zdV <| CN <| Op1.assign (v := .int .u64 _) rfl <| NL <| zaj [(1, .int .i64 _), (8, .bool _), (9, str _), (10, .int .u64 _), (11, .int .u64 _), (12, .bool _), (13, .int .u64 _), (17, .int .u64 _), (99, .slice _ _ _), (100, .int .i64 _), (101, .int .i64 _)] E11 fun f => SQ <| SR <| CN <| zad (v := .int .u64 _) rfl <| CN <| zad (v := .int .u64 _) rfl <| CN <| zaS rfl rfl <| MB rfl <| zan (d := 155) rfl (fun g29 => ?_) (fun g29 => ?_)
        ·exfalso
         omega
        refine TK (t := 155) rfl (Vb (Df g29)) <| zad (v := .int .u64 _) rfl <| TK (t := 155) rfl (Vb (Df g29)) <| zad (v := .int .u64 _) rfl <| TK (t := 155) rfl (Vb (Df g29)) <| zbm rfl rfl <| CN <| zaq (u := .bool _) (Vb (Df g29)) rfl <| NL <| zab rfl (fun g30 => ?_) (fun g30 => ?_)
        ·exfalso
         omega
        refine zaf <| RG <| CN <| zad (v := .int .u64 _) rfl <| CN <| Op1.assign (v := .int .u64 _) rfl <| NL <| zam <| RG <| CN <| zas rfl rfl rfl zbe <| MI rfl <| NL <| zay ?_
        exact ih9 ((i + 1, 16 * n + zdO (s.getD i 0))) _ w (by (try dsimp only); omega) hst (⟨by (try dsimp only); omega, by (try dsimp only); exact zc5 hJ.2.1 (zd5 hyd).2, by (try dsimp only); rw [hJ.2.2, zd4 (by omega) hyd]⟩) E7 ⟨rfl, (congrArg (Value.int .u64) (by (try dsimp only); omega)), (Vi (by (try dsimp only); omega)), trivial⟩
       refine SR <| CN <| zb5 (v := .int .i64 _) ziz rfl rfl <| CN <| Op1.assign (v := .int .u64 _) rfl <| CN <| Op1.assign (v := .iface _ _) rfl <| NL <| zai Tryz.func144 rfl (TP (v := .int .u64 _) rfl) (TP (v := .iface _ _) rfl) ?_
       have hno : ¬ zcY (s.getD i 0) = true := fun hn => by have hn2 := of_decide_eq_true hn; omega
       exact ⟨.inr ⟨.inr (hJ.2.2.trans (zct Om hno)), rfl⟩, hst.pure⟩
      refine OM (t := 125) rfl (Vb (Df g25)) rfl <| OM (t := 125) rfl (Vb (Df g25)) rfl <| OM (t := 125) rfl (Vb (Df g25)) rfl <| CN <| zaq (u := .bool _) (Vb (Df g25)) rfl <| AB rfl <| NL <| zaj [(1, .int .i64 _), (8, .bool _), (9, str _), (10, .int .u64 _), (11, .int .u64 _), (12, .bool _), (13, .int .u64 _), (15, .int .u8 _), (99, .slice _ _ _), (100, .int .i64 _), (101, .int .i64 _), (121, .bool _)] E12 fun f => zat (Vb (rfl : false = _)) <| SR <| CN <| zb5 (v := .int .i64 _) ziz rfl rfl <| CN <| Op1.assign (v := .int .u64 _) rfl <| CN <| Op1.assign (v := .iface _ _) rfl <| NL <| zai Tryz.func144 rfl (TP (v := .int .u64 _) rfl) (TP (v := .iface _ _) rfl) ?_
      have hno : ¬ zcY (s.getD i 0) = true := fun hn => by have hn2 := of_decide_eq_true hn; omega
      exact ⟨.inr ⟨.inr (hJ.2.2.trans (zct Om hno)), rfl⟩, hst.pure⟩
     refine OM (t := 109) rfl (Vb (Df g11)) rfl <| CN <| zaq (u := .bool _) (Vb (Df g11)) rfl <| AB rfl <| NL <| zat (Vb (rfl : false = _)) <| SR <| MC rfl <| CN <| zbI rfl rfl <| MB rfl <| zan (d := 115) rfl (fun g31 => ?_) (fun g31 => ?_)
     ·refine TK (t := 115) rfl (Vb (Dt g31)) <| zad (v := .int .u8 _) rfl <| TK (t := 115) rfl (Vb (Dt g31)) <| zbI rfl rfl <| CN <| zap (u := .bool _) (Vb (Dt g31)) rfl <| AB rfl <| NL <| zab rfl (fun g32 => ?_) (fun g32 => ?_)
      ·refine RG <| MC rfl <| CN <| zbx rfl rfl rfl Wu8 <| AC rfl <| NL <| zam <| zaj [(1, .int .i64 _), (8, .bool _), (9, str _), (10, .int .u64 _), (11, .int .u64 _), (12, .bool _), (13, .int .u64 _), (16, .int .u8 _), (99, .slice _ _ _), (100, .int .i64 _), (101, .int .i64 _)] E11 fun f => SQ <| SR <| MC rfl <| MI rfl ?_
       first | refine CN (zaY ty3 ty5 rfl Wu8 ?_) | refine CN (za8 ty3 ty5 rfl ?_)
       refine CN <| zbo rfl rfl <| NL <| zab rfl (fun g33 => ?_) (fun g33 => ?_)
       ·exfalso
        omega
       have hyd : zcY (s.getD i 0) = true := Dt Om
       have hwd : (zdO (s.getD i 0) : Int) = ((s.getD i 0).toNat : Int) - 48 := by have hq := of_decide_eq_true hyd; unfold zdO; split <;> (try split) <;> omega
       refine zaf <| SQ <| SR <| CN <| zad (v := .int .u64 _) rfl <| CN <| zad (v := .int .u64 _) rfl <| CN <| zbo rfl rfl <| NL <| zab rfl (fun g34 => ?_) (fun g34 => ?_)
       ·exfalso
        omega
       refine zaf <| SR <| CN <| zad (v := .int .u64 _) rfl <| MI rfl ?_
       first | refine CN (zaY ty3 zbF rfl zdV ?_) | refine CN (za8 ty3 zbF rfl ?_)
       refine CN <| zbP rfl rfl rfl zdV <| CN <| Op1.assign (v := .int .u64 _) rfl <| NSR <| CN <| zad (v := .int .u64 _) rfl <| MC rfl ?_
       first | refine CN (zaY ty5 zbF rfl zdV ?_) | refine CN (za8 ty5 zbF rfl ?_)
       refine CN <| zas rfl rfl rfl zdV <| CN <| Op1.assign (v := .int .u64 _) rfl <| NL <| SQ <| SR <| CN <| zad (v := .int .u64 _) rfl <| CN <| zad (v := .int .u64 _) rfl <| CN <| zaS rfl rfl <| MB rfl <| zan (d := 155) rfl (fun g35 => ?_) (fun g35 => ?_)
       ·exfalso
        omega
       refine TK (t := 155) rfl (Vb (Df g35)) <| zad (v := .int .u64 _) rfl <| TK (t := 155) rfl (Vb (Df g35)) <| zad (v := .int .u64 _) rfl <| TK (t := 155) rfl (Vb (Df g35)) <| zbm rfl rfl <| CN <| zaq (u := .bool _) (Vb (Df g35)) rfl <| NL <| zaj [(1, .int .i64 _), (8, .bool _), (9, str _), (10, .int .u64 _), (11, .int .u64 _), (12, .bool _), (17, .int .u64 _), (99, .slice _ _ _), (100, .int .i64 _), (101, .int .i64 _), (159, .bool _)] E11 fun f => zab rfl (fun g36 => ?_) (fun g36 => ?_)
       ·exfalso
        omega
       refine zaf <| RG <| CN <| zad (v := .int .u64 _) rfl <| CN <| Op1.assign (v := .int .u64 _) rfl <| NL <| zam <| RG <| CN <| zas rfl rfl rfl zbe <| MI rfl <| NL <| zay ?_
       exact ih9 ((i + 1, 16 * n + zdO (s.getD i 0))) _ w (by (try dsimp only); omega) hst (⟨by (try dsimp only); omega, by (try dsimp only); exact zc5 hJ.2.1 (zd5 hyd).2, by (try dsimp only); rw [hJ.2.2, zd4 (by omega) hyd]⟩) E7 ⟨rfl, (congrArg (Value.int .u64) (by (try dsimp only); omega)), (Vi (by (try dsimp only); omega)), trivial⟩
      refine SR <| MC rfl <| CN <| Op1.call1 (v1 := .int .u8 _) zga rfl rfl <| Ret.det (zdd _ _) hst fun w hst => CN <| zbI rfl rfl <| MB rfl <| zan (d := 125) rfl (fun g37 => ?_) (fun g37 => ?_)
      ·refine TK (t := 125) rfl (Vb (Dt g37)) <| zad (v := .int .u8 _) rfl <| TK (t := 125) rfl (Vb (Dt g37)) (Op1.call1 (v1 := .int .u8 _) zga rfl rfl ((zdd _ _).mono fun v w hp => ?_))
       obtain ⟨rfl, hp⟩ := hp
       replace hst := hst.keepc hp
       clear hp
       refine TK (t := 125) rfl (Vb (Dt g37)) <| zbI rfl rfl <| CN <| zap (u := .bool _) (Vb (Dt g37)) rfl <| AB rfl <| NL <| zaj [(1, .int .i64 _), (8, .bool _), (9, str _), (10, .int .u64 _), (11, .int .u64 _), (12, .bool _), (13, .int .u64 _), (15, .int .u8 _), (99, .slice _ _ _), (100, .int .i64 _), (101, .int .i64 _), (121, .bool _)] E12 fun f => zab rfl (fun g38 => ?_) (fun g38 => ?_)
       ·refine RG <| MC rfl <| CN <| Op1.call1 (v1 := .int .u8 _) zga rfl rfl <| Ret.det (zdd _ _) hst fun w hst => CN <| zbx rfl rfl rfl Wu8 <| CN <| zas rfl rfl rfl Wu8 <| AC rfl <| NL <| zam <| SQ <| SR <| MC rfl <| MI rfl ?_
        first | refine CN (zaY ty3 ty5 rfl Wu8 ?_) | refine CN (za8 ty3 ty5 rfl ?_)
        refine CN <| zbo rfl rfl <| NL <| zab rfl (fun g39 => ?_) (fun g39 => ?_)
        ·refine SR <| CN <| zb5 (v := .int .i64 _) ziz rfl rfl <| CN <| Op1.assign (v := .int .u64 _) rfl <| CN <| Op1.assign (v := .iface _ _) rfl <| NL <| zai Tryz.func144 rfl (TP (v := .int .u64 _) rfl) (TP (v := .iface _ _) rfl) ?_
         have hno : ¬ zcY (s.getD i 0) = true := fun hn => by have hn2 := of_decide_eq_true hn; omega
         exact ⟨.inr ⟨.inr (hJ.2.2.trans (zct Om hno)), rfl⟩, hst.pure⟩
        have hyd : zcY (s.getD i 0) = true := Classical.byContradiction fun hn => by have hn2 := of_decide_eq_false (Bool.not_eq_true _ ▸ hn); omega
        have hwd : (zdO (s.getD i 0) : Int) = bits .or .u8 ((s.getD i 0).toNat : Int) 32 - 87 := by have hq := of_decide_eq_true hyd; unfold zdO; split <;> (try split) <;> omega
        refine zaf <| SQ <| SR <| CN <| zad (v := .int .u64 _) rfl <| CN <| zad (v := .int .u64 _) rfl <| CN <| zbo rfl rfl <| NL <| zab rfl (fun g40 => ?_) (fun g40 => ?_)
        ·exfalso
         omega
        refine zaf <| SR <| CN <| zad (v := .int .u64 _) rfl <| MI rfl ?_
        first | refine CN (zaY ty3 zbF rfl zdV ?_) | refine CN (za8 ty3 zbF rfl ?_)
        refine CN <| zbP rfl rfl rfl zdV <| CN <| Op1.assign (v := .int .u64 _) rfl <| NSR <| CN <| zad (v := .int .u64 _) rfl <| MC rfl ?_
        first | refine CN (zaY ty5 zbF rfl zdV ?_) | refine CN (za8 ty5 zbF rfl ?_)
        refine CN <| zas rfl rfl rfl zdV <| CN <| Op1.assign (v := .int .u64 _) rfl <| NL <| zaj [(1, .int .i64 _), (8, .bool _), (9, str _), (10, .int .u64 _), (11, .int .u64 _), (12, .bool _), (13, .int .u64 _), (17, .int .u64 _), (99, .slice _ _ _), (100, .int .i64 _), (101, .int .i64 _)] E11 fun f => SQ <| SR <| CN <| zad (v := .int .u64 _) rfl <| CN <| zad (v := .int .u64 _) rfl <| CN <| zaS rfl rfl <| MB rfl <| zan (d := 155) rfl (fun g41 => ?_) (fun g41 => ?_)
        ·exfalso
         omega
        refine TK (t := 155) rfl (Vb (Df g41)) <| zad (v := .int .u64 _) rfl <| TK (t := 155) rfl (Vb (Df g41)) <| zad (v := .int .u64 _) rfl <| TK (t := 155) rfl (Vb (Df g41)) <| zbm rfl rfl <| CN <| zaq (u := .bool _) (Vb (Df g41)) rfl <| NL <| zab rfl (fun g42 => ?_) (fun g42 => ?_)
        ·exfalso
         omega
        refine zaf <| RG <| CN <| zad (v := .int .u64 _) rfl <| CN <| Op1.assign (v := .int .u64 _) rfl <| NL <| zam <| RG <| CN <| zas rfl rfl rfl zbe <| MI rfl <| NL <| zay ?_
        exact ih9 ((i + 1, 16 * n + zdO (s.getD i 0))) _ w (by (try dsimp only); omega) hst (⟨by (try dsimp only); omega, by (try dsimp only); exact zc5 hJ.2.1 (zd5 hyd).2, by (try dsimp only); rw [hJ.2.2, zd4 (by omega) hyd]⟩) E7 ⟨rfl, (congrArg (Value.int .u64) (by (try dsimp only); omega)), (Vi (by (try dsimp only); omega)), trivial⟩
       refine SR <| CN <| zb5 (v := .int .i64 _) ziz rfl rfl <| CN <| Op1.assign (v := .int .u64 _) rfl <| CN <| Op1.assign (v := .iface _ _) rfl <| NL <| zai Tryz.func144 rfl (TP (v := .int .u64 _) rfl) (TP (v := .iface _ _) rfl) ?_
       have hno : ¬ zcY (s.getD i 0) = true := fun hn => by have hn2 := of_decide_eq_true hn; omega
       exact ⟨.inr ⟨.inr (hJ.2.2.trans (zct Om hno)), rfl⟩, hst.pure⟩
      refine OM (t := 125) rfl (Vb (Df g37)) rfl <| OM (t := 125) rfl (Vb (Df g37)) rfl <| OM (t := 125) rfl (Vb (Df g37)) rfl <| CN <| zaq (u := .bool _) (Vb (Df g37)) rfl <| AB rfl <| NL <| zaj [(1, .int .i64 _), (8, .bool _), (9, str _), (10, .int .u64 _), (11, .int .u64 _), (12, .bool _), (13, .int .u64 _), (15, .int .u8 _), (99, .slice _ _ _), (100, .int .i64 _), (101, .int .i64 _), (121, .bool _)] E12 fun f => zat (Vb (rfl : false = _)) <| SR <| CN <| zb5 (v := .int .i64 _) ziz rfl rfl <| CN <| Op1.assign (v := .int .u64 _) rfl <| CN <| Op1.assign (v := .iface _ _) rfl <| NL <| zai Tryz.func144 rfl (TP (v := .int .u64 _) rfl) (TP (v := .iface _ _) rfl) ?_
      have hno : ¬ zcY (s.getD i 0) = true := fun hn => by have hn2 := of_decide_eq_true hn; omega
      exact ⟨.inr ⟨.inr (hJ.2.2.trans (zct Om hno)), rfl⟩, hst.pure⟩
     refine OM (t := 115) rfl (Vb (Df g31)) rfl <| OM (t := 115) rfl (Vb (Df g31)) rfl <| CN <| zaq (u := .bool _) (Vb (Df g31)) rfl <| AB rfl <| NL <| zat (Vb (rfl : false = _)) <| SR <| MC rfl <| CN <| Op1.call1 (v1 := .int .u8 _) zga rfl rfl <| Ret.det (zdd _ _) hst fun w hst => CN <| zbI rfl rfl <| MB rfl <| zan (d := 125) rfl (fun g43 => ?_) (fun g43 => ?_)
     ·refine TK (t := 125) rfl (Vb (Dt g43)) <| zad (v := .int .u8 _) rfl <| TK (t := 125) rfl (Vb (Dt g43)) (Op1.call1 (v1 := .int .u8 _) zga rfl rfl ((zdd _ _).mono fun v w hp => ?_))
      obtain ⟨rfl, hp⟩ := hp
      replace hst := hst.keepc hp
      clear hp
      refine TK (t := 125) rfl (Vb (Dt g43)) <| zbI rfl rfl <| CN <| zap (u := .bool _) (Vb (Dt g43)) rfl <| AB rfl <| NL <| zaj [(1, .int .i64 _), (8, .bool _), (9, str _), (10, .int .u64 _), (11, .int .u64 _), (12, .bool _), (13, .int .u64 _), (15, .int .u8 _), (99, .slice _ _ _), (100, .int .i64 _), (101, .int .i64 _), (121, .bool _)] E12 fun f => zab rfl (fun g44 => ?_) (fun g44 => ?_)
      ·refine RG <| MC rfl <| CN <| Op1.call1 (v1 := .int .u8 _) zga rfl rfl <| Ret.det (zdd _ _) hst fun w hst => CN <| zbx rfl rfl rfl Wu8 <| CN <| zas rfl rfl rfl Wu8 <| AC rfl <| NL <| zam <| SQ <| SR <| MC rfl <| MI rfl ?_
       first | refine CN (zaY ty3 ty5 rfl Wu8 ?_) | refine CN (za8 ty3 ty5 rfl ?_)
       refine CN <| zbo rfl rfl <| NL <| zab rfl (fun g45 => ?_) (fun g45 => ?_)
       ·refine SR <| CN <| zb5 (v := .int .i64 _) ziz rfl rfl <| CN <| Op1.assign (v := .int .u64 _) rfl <| CN <| Op1.assign (v := .iface _ _) rfl <| NL <| zai Tryz.func144 rfl (TP (v := .int .u64 _) rfl) (TP (v := .iface _ _) rfl) ?_
        have hno : ¬ zcY (s.getD i 0) = true := fun hn => by have hn2 := of_decide_eq_true hn; omega
        exact ⟨.inr ⟨.inr (hJ.2.2.trans (zct Om hno)), rfl⟩, hst.pure⟩
       have hyd : zcY (s.getD i 0) = true := Classical.byContradiction fun hn => by have hn2 := of_decide_eq_false (Bool.not_eq_true _ ▸ hn); omega
       have hwd : (zdO (s.getD i 0) : Int) = bits .or .u8 ((s.getD i 0).toNat : Int) 32 - 87 := by have hq := of_decide_eq_true hyd; unfold zdO; split <;> (try split) <;> omega
       refine zaf <| SQ <| SR <| CN <| zad (v := .int .u64 _) rfl <| CN <| zad (v := .int .u64 _) rfl <| CN <| zbo rfl rfl <| NL <| zab rfl (fun g46 => ?_) (fun g46 => ?_)
       ·exfalso
        omega
       refine zaf <| SR <| CN <| zad (v := .int .u64 _) rfl <| MI rfl ?_
       first | refine CN (zaY ty3 zbF rfl zdV ?_) | refine CN (za8 ty3 zbF rfl ?_)
       refine CN <| zbP rfl rfl rfl zdV <| CN <| Op1.assign (v := .int .u64 _) rfl <| NSR <| CN <| zad (v := .int .u64 _) rfl <| MC rfl ?_
       first | refine CN (zaY ty5 zbF rfl zdV ?_) | refine CN (za8 ty5 zbF rfl ?_)
       refine CN <| zas rfl rfl rfl zdV <| CN <| Op1.assign (v := .int .u64 _) rfl <| NL <| zaj [(1, .int .i64 _), (8, .bool _), (9, str _), (10, .int .u64 _), (11, .int .u64 _), (12, .bool _), (13, .int .u64 _), (17, .int .u64 _), (99, .slice _ _ _), (100, .int .i64 _), (101, .int .i64 _)] E11 fun f => SQ <| SR <| CN <| zad (v := .int .u64 _) rfl <| CN <| zad (v := .int .u64 _) rfl <| CN <| zaS rfl rfl <| MB rfl <| zan (d := 155) rfl (fun g47 => ?_) (fun g47 => ?_)
       ·exfalso
        omega
       refine TK (t := 155) rfl (Vb (Df g47)) <| zad (v := .int .u64 _) rfl <| TK (t := 155) rfl (Vb (Df g47)) <| zad (v := .int .u64 _) rfl <| TK (t := 155) rfl (Vb (Df g47)) <| zbm rfl rfl <| CN <| zaq (u := .bool _) (Vb (Df g47)) rfl <| NL <| zab rfl (fun g48 => ?_) (fun g48 => ?_)
       ·exfalso
        omega
       refine zaf <| RG <| CN <| zad (v := .int .u64 _) rfl <| CN <| Op1.assign (v := .int .u64 _) rfl <| NL <| zam <| RG <| CN <| zas rfl rfl rfl zbe <| MI rfl <| NL <| zay ?_
       exact ih9 ((i + 1, 16 * n + zdO (s.getD i 0))) _ w (by (try dsimp only); omega) hst (⟨by (try dsimp only); omega, by (try dsimp only); exact zc5 hJ.2.1 (zd5 hyd).2, by (try dsimp only); rw [hJ.2.2, zd4 (by omega) hyd]⟩) E7 ⟨rfl, (congrArg (Value.int .u64) (by (try dsimp only); omega)), (Vi (by (try dsimp only); omega)), trivial⟩
      refine SR <| CN <| zb5 (v := .int .i64 _) ziz rfl rfl <| CN <| Op1.assign (v := .int .u64 _) rfl <| CN <| Op1.assign (v := .iface _ _) rfl <| NL <| zai Tryz.func144 rfl (TP (v := .int .u64 _) rfl) (TP (v := .iface _ _) rfl) ?_
      have hno : ¬ zcY (s.getD i 0) = true := fun hn => by have hn2 := of_decide_eq_true hn; omega
      exact ⟨.inr ⟨.inr (hJ.2.2.trans (zct Om hno)), rfl⟩, hst.pure⟩
     refine OM (t := 125) rfl (Vb (Df g43)) rfl <| OM (t := 125) rfl (Vb (Df g43)) rfl <| OM (t := 125) rfl (Vb (Df g43)) rfl <| CN <| zaq (u := .bool _) (Vb (Df g43)) rfl <| AB rfl <| NL <| zaj [(1, .int .i64 _), (8, .bool _), (9, str _), (10, .int .u64 _), (11, .int .u64 _), (12, .bool _), (13, .int .u64 _), (15, .int .u8 _), (99, .slice _ _ _), (100, .int .i64 _), (101, .int .i64 _), (121, .bool _)] E12 fun f => zat (Vb (rfl : false = _)) <| SR <| CN <| zb5 (v := .int .i64 _) ziz rfl rfl <| CN <| Op1.assign (v := .int .u64 _) rfl <| CN <| Op1.assign (v := .iface _ _) rfl <| NL <| zai Tryz.func144 rfl (TP (v := .int .u64 _) rfl) (TP (v := .iface _ _) rfl) ?_
     have hno : ¬ zcY (s.getD i 0) = true := fun hn => by have hn2 := of_decide_eq_true hn; omega
     exact ⟨.inr ⟨.inr (hJ.2.2.trans (zct Om hno)), rfl⟩, hst.pure⟩
    refine zaJ (id := 3) rfl <| SQ <| SR <| MB rfl <| MB rfl <| OM (t := 165) rfl (Vb (rfl : false = _)) rfl <| OM (t := 165) rfl (Vb (rfl : false = _)) rfl <| OM (t := 165) rfl (Vb (rfl : false = _)) rfl <| CN <| zaq (u := .bool _) (Vb (rfl : false = _)) rfl <| NL <| zat (Vb (rfl : false = _)) <| zaf <| SQ <| RG ?_
    refine CN <| zad (v := .int .u64 _) rfl <| CN <| Op1.assign (v := .int .u64 _) rfl <| CN <| Op1.assign (v := .nilIface) rfl <| NL <| zai Tryz.func144 rfl (TP (v := .int .u64 _) rfl) (TP (v := .nilIface) rfl) ?_
    exact ⟨.inl ⟨n, fun e => g1 (List.length_eq_zero_iff.1 e), hJ.2.2.trans (zmt Om), rfl⟩, hst.pure⟩
   exfalso
   omega
  exfalso
  omega
 exfalso
 omega
end Go.SK
namespace Go.SK
open Go Go.Proofs
theorem ent144 : zaN Tryz.prog 144 := ⟨Tryz.f144, _, Tryz.func144, Kr, rfl⟩
theorem zrC : TyF Tryz.prog 151 (.interface (ztO Tryz.prog 151)) 1 16 [.nilIface] := zbK Kr Kr
theorem ent145 : zaN Tryz.prog 145 := ⟨Tryz.f145, _, Tryz.func145, Kr, rfl⟩
theorem ent86 : zaN Tryz.prog 86 := ⟨Tryz.f86, _, Tryz.func86, Kr, rfl⟩
theorem zwh : zaN Tryz.prog 97 := ⟨Tryz.f97, _, Tryz.func97, Kr, rfl⟩
theorem zwi : zaN Tryz.prog 83 := ⟨Tryz.f83, _, Tryz.func83, Kr, rfl⟩
theorem zuc : zaN Tryz.prog 84 := ⟨Tryz.f84, _, Tryz.func84, Kr, rfl⟩
theorem zsk : zaN Tryz.prog 85 := ⟨Tryz.f85, _, Tryz.func85, Kr, rfl⟩
theorem ent87 : zaN Tryz.prog 87 := ⟨Tryz.f87, _, Tryz.func87, Kr, rfl⟩
end Go.SK
namespace Go.SK
open Go Go.Proofs
open Go.RowKit
theorem zuP (s : Tx) (hl : s.length ≤ 8) (w : World) (hG : LxG.holds w) : Ret Tryz.prog 86 #[str s, .int .i64 16, .int .i64 32] w (fun v w' => ((∃ n, s.length ≠ 0 ∧ zcJ s 0 = some n ∧ v = .tuple #[.int .u64 (n : Int), .nilIface]) ∨ ((s.length = 0 ∨ zcJ s 0 = none) ∧ ∃ N, v = .tuple #[.int .u64 0, .iface 252 (.pointer (some ⟨N, 0, none⟩))])) ∧ St w NoM [] [] w') := by
 refine zav (args := [str s, .int .i64 16, .int .i64 32]) Tryz.func86 rfl rfl rfl ?_
 have hst : St w NoM [] [LxG] w := St.init_Ds (by simp only [List.forall_mem_cons]; exact ⟨hG, fun _ h => absurd h List.not_mem_nil⟩)
 refine SR <| CN <| Op1.assign (v := .int .u64 _) rfl <| CN <| Op1.assign (v := .nilIface) rfl <| NSR <| MS rfl <| MI rfl <| MI rfl <| CN (zbD (v1 := str _) (v2 := .int .i64 _) (v3 := .int .i64 _) ent144 rfl rfl rfl rfl ((zsy s hl _).mono fun v w hp => ?_))
 replace hp := or_and_right.1 hp
 rcases hp with ⟨⟨n, hne, hn, rfl⟩, hp⟩ | ⟨⟨hno, rfl⟩, hp⟩
 ·replace hst := hst.keepc hp
  clear hp
  refine CN <| zad (v := .tuple #[.int .u64 _, .nilIface]) rfl <| CN <| Ex (.int .u64 _) rfl rfl <| CN <| Ex (.nilIface) rfl rfl <| CN <| Op1.assign (v := .int .u64 _) rfl <| CN <| Op1.assign (v := .nilIface) rfl <| NL <| SQ <| SR <| CN <| zad (v := .nilIface) rfl <| CN <| zva zrC rfl rfl <| NL <| zat (Vb (rfl : false = _)) <| zaf <| SQ ?_
  refine RG <| CN <| zad (v := .int .u64 _) rfl <| CN <| Op1.assign (v := .int .u64 _) rfl <| CN <| Op1.assign (v := .nilIface) rfl <| NL <| zai Tryz.func86 rfl (TP (v := .int .u64 _) rfl) (TP (v := .nilIface) rfl) ?_
  exact ⟨.inl ⟨n, hne, hn, rfl⟩, hst.pure⟩
 ·replace hst := hst.keepc hp
  clear hp
  refine CN <| zad (v := .tuple #[.int .u64 _, .iface _ _]) rfl <| CN <| Ex (.int .u64 _) rfl rfl <| CN <| Ex (.iface _ _) rfl rfl <| CN <| Op1.assign (v := .int .u64 _) rfl <| CN <| Op1.assign (v := .iface _ _) rfl <| NL <| SQ <| SR <| CN <| zad (v := .iface _ _) rfl <| CN <| zvb zrC rfl rfl <| NL <| zax (Vb (rfl : true = _)) <| SQ <| RG ?_
  refine CN <| zad (v := .int .u64 _) rfl <| MS rfl <| MI rfl <| MI rfl <| CN <| zad (v := .iface _ _) rfl <| CN (zvf (v1 := str _) (v2 := str _) (v3 := .int .i64 _) (v4 := .int .i64 _) (v5 := .iface _ _) ent145 rfl rfl rfl rfl rfl rfl ((lx_TE _ s _ (hst.hD _ Q0) Om).mono fun v w hp => ?_))
  obtain ⟨⟨N, rfl⟩, hp⟩ := hp
  replace hst := hst.keepc hp
  clear hp
  refine CN <| Op1.assign (v := .int .u64 _) rfl <| CN <| Op1.assign (v := .iface _ _) rfl <| NL <| zai Tryz.func86 rfl (TP (v := .int .u64 _) rfl) (TP (v := .iface _ _) rfl) ?_
  exact ⟨.inr ⟨hno, N, rfl⟩, hst.pure⟩
theorem zg5 (s : Tx) (w : World) (hG : LxG.holds w) (hl : s.length ≤ 140737488355328) : Ret Tryz.prog 83 #[str s] w (fun v w' => v = .tuple #[.int .u32 (puV s : Int), .bool (zbn s).isSome] ∧ St w NoM [] [] w') := by
 refine zav (args := [str s]) Tryz.func83 rfl rfl rfl ?_
 have hst : St w NoM [] [LxG] w := St.init_Ds (by simp only [List.forall_mem_cons]; exact ⟨hG, fun _ h => absurd h List.not_mem_nil⟩)
 have hpv := zwY s
 refine SR <| AU rfl <| AB rfl <| NSR <| MS rfl <| CN (zbD (v1 := str _) (v2 := .int .i64 _) (v3 := .int .i64 _) ent86 rfl rfl rfl rfl ((zxM s _ (hst.hD _ Q0) Om).mono fun v w hp => ?_))
 replace hp := or_and_right.1 hp
 rcases hp with ⟨⟨ho, rfl⟩, hp⟩ | ⟨⟨ho, N, rfl⟩, hp⟩
 ·replace hst := hst.keepc hp
  clear hp
  refine CN <| zad (v := .tuple #[.int .u64 _, .nilIface]) rfl <| CN <| Ex (.int .u64 _) rfl rfl <| CN <| Ex (.nilIface) rfl rfl <| CN <| Op1.assign (v := .int .u64 _) rfl <| CN <| Op1.assign (v := .nilIface) rfl <| NSR <| CN (zad (v := .int .u64 _) rfl ?_)
  first | refine CN (zaY zbF zbt rfl zkM ?_) | refine CN (za8 zbF zbt rfl ?_)
  refine CN <| zad (v := .nilIface) rfl <| CN <| zo4 zrC rfl rfl <| MB rfl <| TK (t := 15) rfl (Vb (rfl : true = _)) <| zad (v := .int .u64 _) rfl <| TK (t := 15) rfl (Vb (rfl : true = _)) (zaz (v1 := .int .u64 _) (v2 := .int .i64 _) zwh rfl rfl rfl ((zmX (puV s) Om _ (hst.hD _ Q0)).mono fun v w hp => ?_))
  obtain ⟨rfl, hp⟩ := hp
  replace hst := hst.keepc hp
  clear hp
  refine TK (t := 15) rfl (Vb (rfl : true = _)) <| zad (v := str _) rfl <| TK (t := 15) rfl (Vb (rfl : true = _)) <| zbV rfl rfl <| CN <| zap (u := .bool _) (Vb (rfl : true = _)) rfl <| AU rfl <| AB rfl <| NL <| zai Tryz.func83 rfl (TP (v := .int .u32 _) rfl) (TP (v := .bool _) rfl) ?_
  rw [zty ho]
  exact ⟨rfl, hst.pure⟩
 ·replace hst := hst.keepc hp
  clear hp
  refine CN <| zad (v := .tuple #[.int .u64 _, .iface _ _]) rfl <| CN <| Ex (.int .u64 _) rfl rfl <| CN <| Ex (.iface _ _) rfl rfl <| CN <| Op1.assign (v := .int .u64 _) rfl <| CN <| Op1.assign (v := .iface _ _) rfl <| NSR <| CN (zad (v := .int .u64 _) rfl ?_)
  first | refine CN (zaY zbF zbt rfl zkM ?_) | refine CN (za8 zbF zbt rfl ?_)
  refine CN <| zad (v := .iface _ _) rfl <| CN <| zo5 zrC rfl rfl <| MB rfl <| OM (t := 15) rfl (Vb (rfl : false = _)) rfl <| OM (t := 15) rfl (Vb (rfl : false = _)) rfl <| OM (t := 15) rfl (Vb (rfl : false = _)) rfl <| OM (t := 15) rfl (Vb (rfl : false = _)) rfl <| CN <| zaq (u := .bool _) (Vb (rfl : false = _)) rfl <| AU rfl <| AB rfl <| NL <| zai Tryz.func83 rfl (TP (v := .int .u32 _) rfl) (TP (v := .bool _) rfl) ?_
  rw [zvM ho]
  exact ⟨rfl, hst.pure⟩
theorem zdn (s : Tx) (w : World) (hG : LxG.holds w) (hl : s.length ≤ 140737488355328) : Ret Tryz.prog 40 #[str s] w (fun v w' => v = .tuple #[.int .u32 (zba s).1, .int .i64 (zba s).2] ∧ St w NoM [] [] w') := by
 refine zav (args := [str s]) Tryz.func40 rfl rfl rfl ?_
 have hst : St w NoM [] [LxG] w := St.init_Ds (by simp only [List.forall_mem_cons]; exact ⟨hG, fun _ h => absurd h List.not_mem_nil⟩)
 refine SR <| AU rfl <| AI rfl <| NL <| SQ <| SR <| MS rfl <| CN <| Op1.call1 (v1 := str _) zwi rfl rfl <| Ret.det (zg5 _ _ (hst.hD _ Q0) (by first | omega | (simp only [List.length_drop, List.length_take, List.length_append, List.length_cons, List.length_nil]; omega))) hst fun w hst => CN <| zad (v := .tuple #[.int .u32 _, .bool _]) rfl <| CN <| Ex (.int .u32 _) rfl rfl <| CN <| Ex (.bool _) rfl rfl <| AU rfl <| AB rfl ?_
 refine NSR <| MB rfl <| NL <| zaA rfl (fun g1 => ?_) (fun g1 => ?_)
 ·obtain ⟨n0, hn0⟩ := zfy g1
  have hpr := zhV hn0
  refine SR <| MU rfl <| AU rfl <| AI rfl <| NL <| zai Tryz.func40 rfl (TP (v := .int .u32 _) rfl) (TP (v := .int .i64 _) rfl) ?_
  rw [zfo hn0, hpr.2.1]
  exact ⟨rfl, hst.pure⟩
 have hpn := zh3 g1
 refine zaf <| SQ <| SR <| MS rfl <| CN (zaz (v1 := str _) (v2 := str _) zuc rfl rfl rfl ((znK s [45] _).mono fun v w hp => ?_))
 rcases hp with ⟨hm0, rfl, hp⟩ | ⟨hm0, rfl, hp⟩
 ·replace hst := hst.keepc hp
  clear hp
  have hm := take1 hm0
  have hm45 : (45 : UInt8).toNat = 45 := rfl
  have hcl : ([45] : Tx).length = 1 := rfl
  rw [hm45] at hm
  refine CN <| zad (v := .tuple #[str _, .bool _]) rfl <| CN <| Ex (str _) rfl rfl <| CN <| Ex (.bool _) rfl rfl <| AS rfl <| AB rfl <| NSR <| MB rfl <| NL <| zax (Vb (rfl : true = _)) <| SR <| MS rfl <| CN <| Op1.call1 (v1 := str _) zwi rfl rfl <| Ret.det (zg5 _ _ (hst.hD _ Q0) (by first | omega | (simp only [List.length_drop, List.length_take, List.length_append, List.length_cons, List.length_nil]; omega))) hst fun w hst => ?_
  refine CN <| zad (v := .tuple #[.int .u32 _, .bool _]) rfl <| CN <| Ex (.int .u32 _) rfl rfl <| CN <| Ex (.bool _) rfl rfl <| AU rfl <| AB rfl <| NL <| zaj [(0, str _), (8, .int .u32 _), (9, .bool _)] E3 fun f => SR <| MB rfl <| MB rfl <| zbH (d := 33) rfl (fun g2 => ?_) (fun g2 => ?_)
  ·obtain ⟨m, hm0m⟩ := zfy g2
   have hmm : zbn (s.drop 1) = some m := hm0m
   have hpm : puV (s.drop ([45] : Tx).length) = m := (zhV hm0m).2.1
   refine TK (t := 33) rfl (Vb g2) <| zad (v := .int .u32 _) rfl <| TK (t := 33) rfl (Vb g2) <| zbo rfl rfl <| CN <| zap (u := .bool _) (Vb g2) rfl <| MB rfl <| zan (d := 37) rfl (fun g3 => ?_) (fun g3 => ?_)
   ·refine TK (t := 37) rfl (Vb (Dt g3)) <| zad (v := .int .u32 _) rfl <| TK (t := 37) rfl (Vb (Dt g3)) <| zbI rfl rfl <| CN <| zap (u := .bool _) (Vb (Dt g3)) rfl <| NL <| zab rfl (fun g4 => ?_) (fun g4 => ?_)
    ·refine SR <| MU rfl ?_
     first | refine CN (zwN rfl rfl zkM ?_) | refine CN (zye rfl ?_)
     refine AU rfl <| AI rfl <| NL <| zai Tryz.func40 rfl (TP (v := .int .u32 _) rfl) (TP (v := .int .i64 _) rfl) ?_
     have hq : (1 : Int) ≤ (m : Int) ∧ (m : Int) ≤ 2147483648 := by omega
     rw [zpw hpn hm hmm (by omega)]
     have hw := zvR (m := m) Om
     rw [hpm, hw]
     exact ⟨rfl, hst.pure⟩
    refine zaf <| SQ <| SR <| MS rfl <| CN (zaz (v1 := str _) (v2 := str _) zuc rfl rfl rfl ((znK s [48, 120] _).mono fun v w hp => ?_))
    rcases hp with ⟨hx0, rfl, hp⟩ | ⟨hx0, rfl, hp⟩
    ·have hx := zvA hx0
     have hx48 : (48 : UInt8).toNat = 48 := rfl
     have hx120 : (120 : UInt8).toNat = 120 := rfl
     rw [hx48, hx120] at hx
     exfalso; omega
    ·replace hst := hst.keepc hp
     clear hp
     have hx := zje hx0
     have hx48 : (48 : UInt8).toNat = 48 := rfl
     have hx120 : (120 : UInt8).toNat = 120 := rfl
     rw [hx48, hx120] at hx
     refine CN <| zad (v := .tuple #[str _, .bool _]) rfl <| CN <| Ex (str _) rfl rfl <| CN <| Ex (.bool _) rfl rfl <| AS rfl <| AB rfl <| NSR <| MB rfl <| MB rfl <| OM (t := 49) rfl (Vb (rfl : false = _)) rfl <| OM (t := 49) rfl (Vb (rfl : false = _)) rfl <| OM (t := 49) rfl (Vb (rfl : false = _)) rfl <| CN <| zaq (u := .bool _) (Vb (rfl : false = _)) rfl <| MB rfl ?_
     refine OM (t := 54) rfl (Vb (rfl : false = _)) rfl <| OM (t := 54) rfl (Vb (rfl : false = _)) rfl <| OM (t := 54) rfl (Vb (rfl : false = _)) rfl <| OM (t := 54) rfl (Vb (rfl : false = _)) rfl <| CN <| zaq (u := .bool _) (Vb (rfl : false = _)) rfl <| NL <| zaj [(10, str _), (59, .bool _)] E2 fun f => zat (Vb (rfl : false = _)) <| zaf <| SR <| AU rfl <| AI rfl <| NL <| zai Tryz.func40 rfl (TP (v := .int .u32 _) rfl) (TP (v := .int .i64 _) rfl) ?_
     rw [ze9 hpn hm (fun n hn => by rw [hmm] at hn; cases hn; omega)]
     exact ⟨rfl, hst.pure⟩
   refine OM (t := 37) rfl (Vb (Df g3)) rfl <| OM (t := 37) rfl (Vb (Df g3)) rfl <| CN <| zaq (u := .bool _) (Vb (Df g3)) rfl <| NL <| zat (Vb (rfl : false = _)) <| zaf <| SQ <| SR <| MS rfl <| CN (zaz (v1 := str _) (v2 := str _) zuc rfl rfl rfl ((znK s [48, 120] _).mono fun v w hp => ?_))
   rcases hp with ⟨hx0, rfl, hp⟩ | ⟨hx0, rfl, hp⟩
   ·have hx := zvA hx0
    have hx48 : (48 : UInt8).toNat = 48 := rfl
    have hx120 : (120 : UInt8).toNat = 120 := rfl
    rw [hx48, hx120] at hx
    exfalso; omega
   ·replace hst := hst.keepc hp
    clear hp
    have hx := zje hx0
    have hx48 : (48 : UInt8).toNat = 48 := rfl
    have hx120 : (120 : UInt8).toNat = 120 := rfl
    rw [hx48, hx120] at hx
    refine CN <| zad (v := .tuple #[str _, .bool _]) rfl <| CN <| Ex (str _) rfl rfl <| CN <| Ex (.bool _) rfl rfl <| AS rfl <| AB rfl <| NSR <| MB rfl <| MB rfl <| OM (t := 49) rfl (Vb (rfl : false = _)) rfl <| OM (t := 49) rfl (Vb (rfl : false = _)) rfl <| OM (t := 49) rfl (Vb (rfl : false = _)) rfl <| CN <| zaq (u := .bool _) (Vb (rfl : false = _)) rfl <| MB rfl ?_
    refine OM (t := 54) rfl (Vb (rfl : false = _)) rfl <| OM (t := 54) rfl (Vb (rfl : false = _)) rfl <| OM (t := 54) rfl (Vb (rfl : false = _)) rfl <| OM (t := 54) rfl (Vb (rfl : false = _)) rfl <| CN <| zaq (u := .bool _) (Vb (rfl : false = _)) rfl <| NL <| zaj [(10, str _), (59, .bool _)] E2 fun f => zat (Vb (rfl : false = _)) <| zaf <| SR <| AU rfl <| AI rfl <| NL <| zai Tryz.func40 rfl (TP (v := .int .u32 _) rfl) (TP (v := .int .i64 _) rfl) ?_
    rw [ze9 hpn hm (fun n hn => by rw [hmm] at hn; cases hn; omega)]
    exact ⟨rfl, hst.pure⟩
  have hmn : zbn (s.drop 1) = none := zh3 g2
  refine OM (t := 33) rfl (Vb g2) rfl <| OM (t := 33) rfl (Vb g2) rfl <| CN <| zaq (u := .bool _) (Vb g2) rfl <| MB rfl <| OM (t := 37) rfl (Vb (rfl : false = _)) rfl <| OM (t := 37) rfl (Vb (rfl : false = _)) rfl <| CN <| zaq (u := .bool _) (Vb (rfl : false = _)) rfl <| NL <| zat (Vb (rfl : false = _)) <| zaf <| SQ <| SR <| MS rfl <| CN (zaz (v1 := str _) (v2 := str _) zuc rfl rfl rfl ((znK s [48, 120] _).mono fun v w hp => ?_))
  rcases hp with ⟨hx0, rfl, hp⟩ | ⟨hx0, rfl, hp⟩
  ·have hx := zvA hx0
   have hx48 : (48 : UInt8).toNat = 48 := rfl
   have hx120 : (120 : UInt8).toNat = 120 := rfl
   rw [hx48, hx120] at hx
   exfalso; omega
  ·replace hst := hst.keepc hp
   clear hp
   have hx := zje hx0
   have hx48 : (48 : UInt8).toNat = 48 := rfl
   have hx120 : (120 : UInt8).toNat = 120 := rfl
   rw [hx48, hx120] at hx
   refine CN <| zad (v := .tuple #[str _, .bool _]) rfl <| CN <| Ex (str _) rfl rfl <| CN <| Ex (.bool _) rfl rfl <| AS rfl <| AB rfl <| NSR <| MB rfl <| MB rfl <| OM (t := 49) rfl (Vb (rfl : false = _)) rfl <| OM (t := 49) rfl (Vb (rfl : false = _)) rfl <| OM (t := 49) rfl (Vb (rfl : false = _)) rfl <| CN <| zaq (u := .bool _) (Vb (rfl : false = _)) rfl <| MB rfl ?_
   refine OM (t := 54) rfl (Vb (rfl : false = _)) rfl <| OM (t := 54) rfl (Vb (rfl : false = _)) rfl <| OM (t := 54) rfl (Vb (rfl : false = _)) rfl <| OM (t := 54) rfl (Vb (rfl : false = _)) rfl <| CN <| zaq (u := .bool _) (Vb (rfl : false = _)) rfl <| NL <| zat (Vb (rfl : false = _)) <| zaf <| SR <| AU rfl <| AI rfl <| NL <| zai Tryz.func40 rfl (TP (v := .int .u32 _) rfl) (TP (v := .int .i64 _) rfl) ?_
   rw [ze9 hpn hm (fun n hn => by rw [hmn] at hn; cases hn)]
   exact ⟨rfl, hst.pure⟩
 ·replace hst := hst.keepc hp
  clear hp
  have hm := zvB hm0
  have hm45 : (45 : UInt8).toNat = 45 := rfl
  rw [hm45] at hm
  refine CN <| zad (v := .tuple #[str _, .bool _]) rfl <| CN <| Ex (str _) rfl rfl <| CN <| Ex (.bool _) rfl rfl <| AS rfl <| AB rfl <| NSR <| MB rfl <| NL <| zat (Vb (rfl : false = _)) <| zaf <| SQ <| SQ <| RG ?_
  refine MS rfl <| CN (zaz (v1 := str _) (v2 := str _) zuc rfl rfl rfl ((znK s [48, 120] _).mono fun v w hp => ?_))
  rcases hp with ⟨hx0, rfl, hp⟩ | ⟨hx0, rfl, hp⟩
  ·replace hst := hst.keepc hp
   clear hp
   have hx := zvA hx0
   have hx48 : (48 : UInt8).toNat = 48 := rfl
   have hx120 : (120 : UInt8).toNat = 120 := rfl
   rw [hx48, hx120] at hx
   have hcl2 : ([48, 120] : Tx).length = 2 := rfl
   refine CN <| zad (v := .tuple #[str _, .bool _]) rfl <| CN <| Ex (str _) rfl rfl <| CN <| Ex (.bool _) rfl rfl <| AS rfl <| AB rfl <| NL <| zaj [(10, str _), (11, .bool _)] E2 fun f => SR <| MB rfl <| MB rfl <| TK (t := 49) rfl (Vb (rfl : true = _)) <| zad (v := str _) rfl <| TK (t := 49) rfl (Vb (rfl : true = _)) <| zaL (rest := []) ty9 rfl <| TK (t := 49) rfl (Vb (rfl : true = _)) <| zbI rfl rfl <| CN (zap (u := .bool _) (Vb (rfl : true = _)) rfl ?_)
   refine MB rfl <| zan (d := 54) rfl (fun g5 => ?_) (fun g5 => ?_)
   ·refine TK (t := 54) rfl (Vb (Dt g5)) <| zad (v := str _) rfl <| TK (t := 54) rfl (Vb (Dt g5)) (Op1.call1 (v1 := str _) zsk rfl rfl ((zg4 _ _ (by first | omega | (simp only [List.length_drop]; omega))).mono fun v w hp => ?_))
    obtain ⟨rfl, hp⟩ := hp
    replace hst := hst.keepc hp
    clear hp
    refine TK (t := 54) rfl (Vb (Dt g5)) <| zad (v := str _) rfl <| TK (t := 54) rfl (Vb (Dt g5)) <| zbV rfl rfl <| CN <| zap (u := .bool _) (Vb (Dt g5)) rfl <| NL <| zab rfl (fun g6 => ?_) (fun g6 => ?_)
    ·have hd2 : (s.drop ([48, 120] : Tx).length).length = s.length - 2 := List.length_drop
     have hd3 : (s.drop 2).length = s.length - 2 := List.length_drop
     have hl8 : (s.drop 2).length ≤ 8 := by omega
     refine SR <| MS rfl <| CN (zbD (v1 := str _) (v2 := .int .i64 _) (v3 := .int .i64 _) ent86 rfl rfl rfl rfl ((zuP (s.drop 2) hl8 _ (hst.hD _ Q0)).mono fun v w hp => ?_))
     replace hp := or_and_right.1 hp
     rcases hp with ⟨⟨n, hne, hn, rfl⟩, hp⟩ | ⟨⟨hno, N, rfl⟩, hp⟩
     ·replace hst := hst.keepc hp
      clear hp
      have hru := zjt _ _ _ hn
      have hnb := zt0 hn hl8
      refine CN <| zad (v := .tuple #[.int .u64 _, .nilIface]) rfl <| CN <| Ex (.int .u64 _) rfl rfl <| CN <| Ex (.nilIface) rfl rfl <| CN <| Op1.assign (v := .int .u64 _) rfl <| CN <| Op1.assign (v := .nilIface) rfl <| NL <| zaj [(10, str _), (12, .int .u64 _), (13, .nilIface)] E3 fun f => SR <| CN <| zad (v := .nilIface) rfl <| CN <| zo4 zrC rfl rfl <| MB rfl <| TK (t := 67) rfl (Vb (rfl : true = _)) <| zad (v := str _) rfl <| TK (t := 67) rfl (Vb (rfl : true = _)) (zaz (v1 := str _) (v2 := .int .u8 _) ent87 rfl rfl rfl ((lx_IB (s.drop 2) 95 _).mono fun v w hp => ?_))
      obtain ⟨he, hp⟩ := hp
      replace he := he.trans ((by rw [show (95 : Int).toNat.toUInt8 = 95 from rfl, hru.2] : _ = Value.int .i64 (-1)))
      subst he
      replace hst := hst.keepc hp
      clear hp
      refine TK (t := 67) rfl (Vb (rfl : true = _)) <| zaS rfl rfl <| CN <| zap (u := .bool _) (Vb (rfl : true = _)) rfl <| NL <| zab rfl (fun g7 => ?_) (fun g7 => ?_)
      ·refine SR <| CN (zad (v := .int .u64 _) rfl ?_)
       first | refine CN (zaY zbF zbt rfl zkM ?_) | refine CN (za8 zbF zbt rfl ?_)
       refine AU rfl <| AI rfl <| NL <| zai Tryz.func40 rfl (TP (v := .int .u32 _) rfl) (TP (v := .int .i64 _) rfl) ?_
       have hd2 : (s.drop 2).length = s.length - 2 := List.length_drop
       rw [zjn hpn (by omega) (by omega) hn]
       exact ⟨rfl, hst.pure⟩
      exfalso
      omega
     ·replace hst := hst.keepc hp
      clear hp
      refine CN <| zad (v := .tuple #[.int .u64 _, .iface _ _]) rfl <| CN <| Ex (.int .u64 _) rfl rfl <| CN <| Ex (.iface _ _) rfl rfl <| CN <| Op1.assign (v := .int .u64 _) rfl <| CN <| Op1.assign (v := .iface _ _) rfl <| NL <| zaj [(10, str _), (12, .int .u64 _), (13, .iface _ _)] E3 fun f => SR <| CN <| zad (v := .iface _ _) rfl <| CN <| zo5 zrC rfl rfl <| MB rfl <| OM (t := 67) rfl (Vb (rfl : false = _)) rfl <| OM (t := 67) rfl (Vb (rfl : false = _)) rfl <| OM (t := 67) rfl (Vb (rfl : false = _)) rfl ?_
      refine CN <| zaq (u := .bool _) (Vb (rfl : false = _)) rfl <| NL <| zat (Vb (rfl : false = _)) <| zaf <| SR <| AU rfl <| AI rfl <| NL <| zai Tryz.func40 rfl (TP (v := .int .u32 _) rfl) (TP (v := .int .i64 _) rfl) ?_
      have hd2 : (s.drop 2).length = s.length - 2 := List.length_drop
      rw [zgp hpn hx (by rcases hno with h0 | h0; exact .inr (.inl (by omega)); exact .inr (.inr h0))]
      exact ⟨rfl, hst.pure⟩
    refine zaf <| SR <| AU rfl <| AI rfl <| NL <| zai Tryz.func40 rfl (TP (v := .int .u32 _) rfl) (TP (v := .int .i64 _) rfl) ?_
    rw [zgp hpn hx (.inr (.inr (by cases hq : zcJ (s.drop 2) 0 with | none => rfl | some n => exact absurd (zjt _ _ _ hq).1 g6)))]
    exact ⟨rfl, hst.pure⟩
   refine OM (t := 54) rfl (Vb (Df g5)) rfl <| OM (t := 54) rfl (Vb (Df g5)) rfl <| OM (t := 54) rfl (Vb (Df g5)) rfl <| OM (t := 54) rfl (Vb (Df g5)) rfl <| CN <| zaq (u := .bool _) (Vb (Df g5)) rfl <| NL <| zat (Vb (rfl : false = _)) <| zaf <| SR <| AU rfl <| AI rfl <| NL <| zai Tryz.func40 rfl (TP (v := .int .u32 _) rfl) (TP (v := .int .i64 _) rfl) ?_
   have hd2 : (s.drop ([48, 120] : Tx).length).length = s.length - 2 := List.length_drop
   rw [zgp hpn hx (.inl (by omega))]
   exact ⟨rfl, hst.pure⟩
  ·replace hst := hst.keepc hp
   clear hp
   have hx := zje hx0
   have hx48 : (48 : UInt8).toNat = 48 := rfl
   have hx120 : (120 : UInt8).toNat = 120 := rfl
   rw [hx48, hx120] at hx
   refine CN <| zad (v := .tuple #[str _, .bool _]) rfl <| CN <| Ex (str _) rfl rfl <| CN <| Ex (.bool _) rfl rfl <| AS rfl <| AB rfl <| NL <| zaj [(10, str _), (11, .bool _)] E2 fun f => SR <| MB rfl <| MB rfl <| OM (t := 49) rfl (Vb (rfl : false = _)) rfl <| OM (t := 49) rfl (Vb (rfl : false = _)) rfl <| OM (t := 49) rfl (Vb (rfl : false = _)) rfl <| CN (zaq (u := .bool _) (Vb (rfl : false = _)) rfl ?_)
   refine MB rfl <| OM (t := 54) rfl (Vb (rfl : false = _)) rfl <| OM (t := 54) rfl (Vb (rfl : false = _)) rfl <| OM (t := 54) rfl (Vb (rfl : false = _)) rfl <| OM (t := 54) rfl (Vb (rfl : false = _)) rfl <| CN <| zaq (u := .bool _) (Vb (rfl : false = _)) rfl <| NL <| zat (Vb (rfl : false = _)) <| zaf <| SR <| AU rfl <| AI rfl <| NL <| zai Tryz.func40 rfl (TP (v := .int .u32 _) rfl) (TP (v := .int .i64 _) rfl) ?_
   rw [zdc hpn (by omega) (by omega)]
   exact ⟨rfl, hst.pure⟩
end Go.SK
namespace Go.SK
open Go Go.Proofs
theorem zpJ : zaN Tryz.prog 40 := ⟨Tryz.f40, _, Tryz.func40, Kr, rfl⟩
end Go.SK
namespace Go.SK
open Go Go.Proofs
theorem zbd : TyF Tryz.prog 72 (.struct (zbJ Tryz.prog 72)) 3 32 [.int .u8 0, str [], .int .i64 0] := zbK Kr Kr
theorem zda : zdL Tryz.prog 72 [(0, 1), (1, 1), (2, 1)] := ⟨zbJ Tryz.prog 72, Kr, fun w => Kr⟩
theorem za0 : TyF Tryz.prog 28 (.struct (zbJ Tryz.prog 28)) 2 16 [.int .i64 0, .int .i64 0] := zbK Kr Kr
theorem zcB : TyF Tryz.prog 65 (.slice 72) 1 24 [.slice none 0 0] := zbK Kr Kr
theorem zcE : zdL Tryz.prog 28 [(0, 1), (1, 1)] := ⟨zbJ Tryz.prog 28, Kr, fun w => Kr⟩
end Go.SK
namespace Go.SK
open Go Go.Proofs
theorem zfc : FldF Tryz.prog 72 0 0 := FldF.of (n := 0) Kr
theorem zbl : FldF Tryz.prog 72 1 1 := FldF.of (n := 0) Kr
end Go.SK
namespace Go.SK
open Go Go.Proofs
theorem zbr : FldF Tryz.prog 28 0 0 := FldF.of (n := 0) Kr
theorem zcO : TyF Tryz.prog 26 (.int .i64) 1 8 [.int .i64 0] := zbK Kr Kr
end Go.SK
namespace Go.SK
open Go Go.Proofs
theorem ent178 : zaN Tryz.prog 178 := ⟨Tryz.f178, _, Tryz.func178, Kr, rfl⟩
theorem ent179 : zaN Tryz.prog 179 := ⟨Tryz.f179, _, Tryz.func179, Kr, rfl⟩
theorem ent180 : zaN Tryz.prog 180 := ⟨Tryz.f180, _, Tryz.func180, Kr, rfl⟩
theorem zha : TyF Tryz.prog 211 (.array 6 9) 6 96 [str [], str [], str [], str [], str [], str []] := zbK Kr Kr
theorem ty21 : TyF Tryz.prog 21 (.int .i32) 1 4 [.int .i32 0] := zbK Kr Kr
end Go.SK
