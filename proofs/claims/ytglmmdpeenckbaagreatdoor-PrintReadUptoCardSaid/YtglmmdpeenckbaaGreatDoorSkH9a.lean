/-
  Steps of functions, plain law, and walks of functions: what the laws rest on.
-/
import Derived.Test.YtglmmdpeenckbaaGreatDoorSkH0c
import Derived.Test.YtglmmdpeenckbaaGreatDoorSkH3a
import Derived.Test.YtglmmdpeenckbaaGreatDoorSkH4a
import Derived.Test.YtglmmdpeenckbaaGreatDoorSkH6a
set_option linter.unusedVariables false
set_option linter.unusedSimpArgs false
set_option linter.unusedSectionVars false
namespace Go.SK
open Go.RowKit
theorem zvm {n : Int} (h1 : 0 ≤ n) (h2 : n ≤ 65535) : IntKind.u16.wrap n = n := by
  simp [IntKind.wrap, IntKind.bits, IntKind.signed]; omega
section
variable {P : Program} {ty : TypeId} {ρ : Operand → Value} {w : World} {C : Value → World → Prop} {g : FuncId} {tys : Array TypeId}
variable {a1 a2 a3 a4 a5 : Operand} {v1 v2 v3 v4 v5 : Value}
theorem zsU {c : Operand} {fv : Value} (hf : ρ c = fv) (hc : CallV P fv [] w C) : Op1 P (.call ⟨.value c, #[], tys⟩) ty ρ w C := zfD (args := []) hf rfl hc
variable {T : TypeId} {d : TypeDesc} {sz bytes : Nat} {zs : List Value} {k : IntKind} {a b : Int}
end
end Go.SK
namespace Go.SK
open Go.RowKit
variable {P : Program} {b : Base} {k : List Item} {E : Frame → World → Prop} {ops : Array Oper} {f : Nat → Value} {w0 w : World} {M : Nat → Prop} {L D : List Res} {φ : Nat → zhe} {pd : zkN} {tk : zdC}
section
variable {bs : List Nat} {ds : List (Option Nat)} {i : Nat} {l : List Oper} {ws : Nat → zhe} {n : Nat} {f' : Nat → Value} {L' : List Res} {w' : World}
theorem zhu (tk : zdC) (pd : zkN) (hst : St w0 M (pd.map (·.2.1) ++ L) D w) (htab : DrawTab ops bs ds) (h : DrawTab ops bs ds → RunD tk pd P b ops bs ds k E f w0 M L D w 0 ops.toList noW) {id : Nat} : Run P b (.code (.region id ops true) :: k) f w E :=
  h htab rfl (fun i hi => absurd hi Om) id
theorem zkx {d : Option Tmp} {op : Op} {ty : TypeId} {pos : String} {aft : Array Edge} (wd : zhe) (htab : DrawTab ops bs ds) (i' : Nat) (j t : Nat) (hm : (j, i) ∈ tk) (ht : ds.getD j none = some t)
    (hv : ∀ f' L' L'' w', Know1 tk bs ds f w0 M L D i ws f' L' w' → (∃ g rs, ws j g (f' t) rs ∧ (∀ l u, zm4 (bs.getD j 0) l = true → ds.getD l none = some u → g u = f' u) ∧ L'.Perm (rs ++ L'')) →
      Op1 P op ty (ev b.n f') w' (fun v w'' => ∃ rs, (∀ g, (∀ l u, zm4 (bs.getD i 0) l = true → ds.getD l none = some u → g u = f' u) → wd g v rs) ∧ St w0 M (rs ++ (L'' ++ L)) D w''))
    (h : RunD tk pd P b ops bs ds k E f w0 M L D w i' l (zo9 ws i wd)) (hj : Nat.blt j i = true := by rfl) (hi : i + 1 = i' := by rfl) (hd : zdi op = false := by rfl) : RunD tk pd P b ops bs ds k E f w0 M L D w i (⟨d, op, ty, pos, aft, none⟩ :: l) ws := by
  subst hi
  refine RunD.cons wd (fun ho φ hφ hi2 o ho' f' L' L'' w' hc => ?_) h
  rw [ho] at ho'
  obtain rfl := Option.some.inj ho'
  refine .inl ⟨rfl, hd, ?_⟩
  rw [hi2]
  refine (hv f' L' L'' w' (zeh htab hφ ho hc) ?_).mono fun v w'' ⟨rs, h1, h2⟩ => ⟨rs, h1 _ fun l u hl hu => zgW f' (by rw [htab.waits, zeG]; exact hl) (by rw [htab.dstOf]; exact hu), h2⟩
  obtain ⟨rs, h1, h2⟩ := hc.took j t hm (by rw [htab.dstOf]; exact ht)
  rw [hφ j (by simpa using hj)] at h1
  exact ⟨_, rs, h1, fun l u hl hu => zgW f' (by rw [htab.waits, zeG]; exact hl) (by rw [htab.dstOf]; exact hu), h2⟩
end
end Go.SK
namespace Go.SK
open Go.RowKit
section
variable {w0 w : World} {M : Nat → Prop} {L1 L2 D : List Res}
theorem St.toD (h : St w0 M (L1 ++ L2) D w) : St w0 M L1 (L2 ++ D) w where
  kept := h.kept
  hL := fun r hr => h.hL r (List.mem_append_left _ hr)
  hD := fun r hr => (List.mem_append.1 hr).elim (fun hr => h.hL r (List.mem_append_right _ hr)) (fun hr => h.hD r hr)
  new := fun r hr => h.new r (List.mem_append_left _ hr)
  sep := (List.pairwise_append.1 h.sep).1
  sepD := fun r hr d hd => (List.mem_append.1 hd).elim (fun hd => (List.pairwise_append.1 h.sep).2.2 r hr d hd) (fun hd => h.sepD r (List.mem_append_left _ hr) d hd)
end
end Go.SK
namespace Go.SK
open Go.RowKit Go.ChangeShapes Go.WideShapes Go.ChangeAt
def zvg (P : Program) (g : FuncId) (cap : List Value) (n : Nat) (item : Nat → List Value → Res → Prop) (FD : Nat → Prop) (w : World) : Prop :=
  ∀ (σ : Type) (I J : Nat → σ → Prop) (yv : Value) (R S : Nat → σ → Res) (s0 : σ), I 0 s0 → (R 0 s0).holds w → (∀ b, (R 0 s0).foot b → ¬ FD b) →
    (∀ i s vs r, i < n → I i s → item i vs r → ∀ w1, St w (R 0 s0).foot [r, R i s] [] w1 → CallV P yv vs w1 fun v w2 => (v = .bool true ∧ ∃ s', I (i + 1) s' ∧ St w1 (Res.star [r, R i s]).foot [R (i + 1) s'] [] w2) ∨ (v = .bool false ∧ ∃ s', J i s' ∧ St w1 (Res.star [r, R i s]).foot [S i s'] [] w2)) →
    Ret P g (yv :: cap).toArray w fun _ w' => (∃ s, I n s ∧ St w (R 0 s0).foot [R n s] [] w') ∨ ∃ i s, i < n ∧ J i s ∧ St w (R 0 s0).foot [S i s] [] w'
theorem zvD {a b r : Res} {L : List Res} {x : Nat} : (Res.star [r, Res.star (a :: b :: L)]).foot x ↔ (Res.star (a :: b :: r :: L)).foot x := by
  constructor
  · rintro ⟨q, hq, hx⟩
    cases hq with
    | head => exact ⟨r, .tail _ (.tail _ (.head _)), hx⟩
    | tail _ hq =>
      cases hq with
      | head =>
        obtain ⟨q, hq, hx⟩ := hx
        cases hq with
        | head => exact ⟨_, .head _, hx⟩
        | tail _ hq =>
          cases hq with
          | head => exact ⟨_, .tail _ (.head _), hx⟩
          | tail _ hq => exact ⟨q, .tail _ (.tail _ (.tail _ hq)), hx⟩
      | tail _ h => cases h
  · rintro ⟨q, hq, hx⟩
    cases hq with
    | head => exact ⟨_, .tail _ (.head _), ⟨_, .head _, hx⟩⟩
    | tail _ hq =>
      cases hq with
      | head => exact ⟨_, .tail _ (.head _), ⟨_, .tail _ (.head _), hx⟩⟩
      | tail _ hq =>
        cases hq with
        | head => exact ⟨_, .head _, hx⟩
        | tail _ hq => exact ⟨_, .tail _ (.head _), ⟨q, .tail _ (.tail _ hq), hx⟩⟩
theorem zkP {P : Program} {fid n g : Nat} {ds : List Deferred} {fo : Operand} {ps : List Tmp} {assign body : Code} {k : List Item} {f : Nat → Value} {w0 w : World} {M : Nat → Prop} {L1 L2 D : List Res} {E : Frame → World → Prop} {cap : List Value}
    {N : Nat} {item : Nat → List Value → Res → Prop} {FD : Nat → Prop} {σ : Type} (I J : Nat → σ → Prop) (A B : Nat → σ → List Res) (jc : Nat → Code) (s0 : σ) (h0 : I 0 s0)
    (hst : St w0 M (L1 ++ L2) D w) (hA : A 0 s0 = L1) (hf : ev n f fo = .func (.func g) #[] cap.toArray) (hg : zaN P g)
    (hfd : ∀ b, FD b → (∃ r ∈ L2, r.foot b) ∨ ∃ r ∈ D, r.foot b)
    (hit : ∀ w1, St w0 M (L1 ++ L2) D w1 → zvg P g cap N item FD w1)
    (hlen : ∀ i vs r, item i vs r → vs.length = ps.length)
    (hround : ∀ i s vs x, i < N → I i s → item i vs x → ∀ w1 l r lp, Lp lp fid n f ps assign body → St w1 (Res.star (Res.obj l (.loop lp) :: Res.obj r (.deferred (some [])) :: x :: A i s)).foot (Res.obj l (.loop lp) :: Res.obj r (.deferred (some [])) :: x :: A i s) (L2 ++ D) w1 →
      (∀ w2, Kept (Res.star (Res.obj l (.loop lp) :: Res.obj r (.deferred (some [])) :: x :: A i s)).foot w1 w2 → Kept M w0 w2) →
      Run P (zhT fid n l) [.code assign, .beginRound, .code body] (znr f (ps.zip vs)) w1 (zc3 P fun v w2 =>
        (v = .bool true ∧ ∃ s' D', I (i + 1) s' ∧ St w1 (Res.star (Res.obj l (.loop lp) :: Res.obj r (.deferred (some [])) :: x :: A i s)).foot (Res.obj l (.loop lp) :: Res.obj r (.deferred (some [])) :: A (i + 1) s') D' w2) ∨
        (v = .bool false ∧ ∃ s' D', J i s' ∧ St w1 (Res.star (Res.obj l (.loop lp) :: Res.obj r (.deferred (some [])) :: x :: A i s)).foot (Res.obj l (.loop (zif lp (jc i))) :: Res.obj r (.deferred (some [])) :: B i s') D' w2)))
    (hend : ∀ s w2 l r lp, I N s → St w0 M (Res.obj l (.loop lp) :: Res.obj r (.deferred (some [])) :: (A N s ++ L2)) D w2 → Run P (zcH fid n (zd1 r :: ds)) k f w2 E)
    (hstop : ∀ i s, i < N → J i s → ∀ w2 l r lp, St w0 M (Res.obj l (.loop lp) :: Res.obj r (.deferred (some [])) :: (B i s ++ L2)) D w2 → Run P (zcH fid n (zd1 r :: ds)) (.code (jc i) :: k) f w2 E) :
    Run P (zcH fid n ds) (.code (.rangeFunc fo ps.toArray assign body) :: k) f w E := by
  refine zhP hst hf hg fun w1 l r hst1 => ?_
  obtain ⟨lp, hlp, hst1⟩ : ∃ lp, Lp lp fid n f ps assign body ∧ St w0 M (Res.obj l (.loop lp) :: Res.obj r (.deferred (some [])) :: (L1 ++ L2)) D w1 := ⟨_, ⟨rfl, rfl, rfl, rfl, rfl, rfl, rfl⟩, hst1⟩
  subst hA
  let X : Nat → σ → List Res := fun i s => Res.obj l (.loop lp) :: Res.obj r (.deferred (some [])) :: A i s
  have hX : St w0 M (X 0 s0 ++ L2) D w1 := hst1
  have hplain : St w0 M (A 0 s0 ++ L2) D w1 := (hst1.drop .here).drop .here
  have hi := hit w1 hplain
  refine (hi σ I J (.func (.yield l) #[] #[]) (fun i s => Res.star (X i s)) (fun i s => Res.star (Res.obj l (.loop (zif lp (jc i))) :: Res.obj r (.deferred (some [])) :: B i s)) s0 h0 (hX.pack.hL _ (.head _)) ?_ ?_).mono ?_
  · intro b hb hfb
    have hp := hX.pack
    rcases hfd b hfb with ⟨s, hs, hsb⟩ | ⟨s, hs, hsb⟩
    · exact (List.pairwise_cons.1 hp.sep).1 s hs b hb hsb
    · exact hp.sepD _ (.head _) s hs b hb hsb
  · intro i s vs x hiN hI hitem w2 hw2
    have h2 : St w0 M (x :: Res.star (X i s) :: L2) D w2 := hX.pack.call1 hw2
    have h3 : St w0 M (Res.star (X i s) :: x :: L2) D w2 := h2.perm (List.Perm.swap _ _ _)
    have h4 : St w0 M (X i s ++ x :: L2) D w2 := h3.unpack
    have h5 : St w0 M ((Res.obj l (.loop lp) :: Res.obj r (.deferred (some [])) :: x :: A i s) ++ L2) D w2 := h4.perm (by
      refine List.Perm.cons _ (List.Perm.cons _ ?_)
      exact List.perm_middle)
    have hr := hround i s vs x hiN hI hitem w2 l r lp hlp h5.root (fun w3 hk3 => h5.kept.trans hk3 fun y hy hf => by
      obtain ⟨q, hq, hqy⟩ := hf
      exact (h5.new q (List.mem_append_left _ hq) y hqy).resolve_left Om)
    have hl : w2.heap[l]? = some (.loop lp) := h5.hL _ (.head _)
    refine zkK (ps := ps) (n := n) (f := f) hl hlp.params (hlen i vs x hitem) hlp.tmps ?_
    rw [hlp.fn, hlp.assign, hlp.body]
    refine hr.mono fun fr w3 ⟨v, w4, hC, hs⟩ => ⟨v, w4, ?_, hs⟩
    have hfoot : (Res.star [x, Res.star (X i s)]).foot = (Res.star (Res.obj l (.loop lp) :: Res.obj r (.deferred (some [])) :: x :: A i s)).foot := by
      funext b; exact propext (zvD)
    rcases hC with ⟨hv, s', D', hI', hC⟩ | ⟨hv, s', D', hJ', hC⟩
    · exact .inl ⟨hv, s', hI', by rw [hfoot]; exact hC.star_of⟩
    · exact .inr ⟨hv, s', hJ', by rw [hfoot]; exact hC.star_of⟩
  · rintro v w2 (⟨s, hI, h2⟩ | ⟨i, s, hiN, hJ, h2⟩)
    · have h3 : St w0 M (X N s ++ L2) D w2 := (hX.pack.call1 h2).unpack
      refine ⟨lp, _, by rw [hlp.state]; decide, h3, fun w3 h4 => ?_⟩
      rw [hlp.pending]
      exact hend s w3 l r _ hI h4
    · have h3 := (hX.pack.call1 h2).unpack
      refine ⟨zif lp (jc i), _, by simp [zif], h3, fun w3 h4 => ?_⟩
      exact hstop i s hiN hJ w3 l r _ h4
end Go.SK
namespace Go.SK
theorem Sel.remd {r e : Res} {X X2 : List Res} (h : Sel r e X X2) : ∃ X1, Rem r X X1 ∧ X2.Perm (e :: X1) := by
  induction h with
  | here => exact ⟨_, .here, List.Perm.refl _⟩
  | there _ ih =>
    rename_i a L L' _
    obtain ⟨X1, h1, h2⟩ := ih
    exact ⟨a :: X1, .there h1, (List.Perm.cons a h2).trans (List.Perm.swap _ _ _)⟩
variable {P : Program} {b : Base} {k : List Item} {E : Frame → World → Prop} {ops : Array Oper} {f : Nat → Value} {w0 w : World} {M : Nat → Prop} {L D : List Res} {pd : zkN} {tk : zdC} {bs : List Nat} {ds : List (Option Nat)} {i : Nat} {l : List Oper} {ws : Nat → zhe}
theorem zd9 {d : Option Tmp} {op : Op} {ty : TypeId} {pos : String} {aft : Array Edge} {r : Res} (wd : zhe) (htab : DrawTab ops bs ds) (i' : Nat) (hm : (i, r, Res.emp) ∈ pd)
    (hv : ∀ f' L' L'' w', Know1 tk bs ds f w0 M L D i ws f' L' w' → (∃ X, Rem r (L' ++ L) X ∧ ∀ w'' q, St w0 M (q :: X) D w'' → St w0 M (q :: (L'' ++ L)) D w'') →
      Op1 P op ty (ev b.n f') w' (fun v w'' => ∃ rs, (∀ g, (∀ l u, zm4 (bs.getD i 0) l = true → ds.getD l none = some u → g u = f' u) → wd g v rs) ∧ St w0 M (rs ++ (L'' ++ L)) D w''))
    (h : RunD tk pd P b ops bs ds k E f w0 M L D w i' l (zo9 ws i wd)) (hi : i + 1 = i' := by rfl) (hd : zdi op = false := by rfl) (hk : zvi tk i = true := by rfl) : RunD tk pd P b ops bs ds k E f w0 M L D w i (⟨d, op, ty, pos, aft, none⟩ :: l) ws := by
  subst hi
  refine RunD.cons wd (fun ho φ hφ hi2 o ho' f' L' L'' w' hc => ?_) h
  rw [ho] at ho'
  obtain rfl := Option.some.inj ho'
  refine .inl ⟨rfl, hd, ?_⟩
  rw [hi2]
  refine (hv f' L' L'' w' (zeh htab hφ ho hc) ?_).mono fun v w'' ⟨rs, h1, h2⟩ => ⟨rs, h1 _ fun l u hl hu => zgW f' (by rw [htab.waits, zeG]; exact hl) (by rw [htab.dstOf]; exact hu), h2⟩
  obtain ⟨X, h1, h2⟩ := ((hc.turn.own r _ hm (zdY hk)).right L).remd
  exact ⟨X, h1, fun w'' q hst => ((hst.addProp (p := True) trivial).perm (List.Perm.swap _ _ _)).perm (List.Perm.cons q h2.symm)⟩
end Go.SK
namespace Go.SK
abbrev numV (o : Option NameL) : Value := .tuple #[.int .u32 (o.getD zcz).n, .bool o.isSome]
theorem zkn {c : Int} {s : zdD} : (zbw c).find? (fun x => decide (x.name = s)) = namesL.find? (enS c s) := by
  unfold zbw; rw [List.find?_filter]; congr 1; funext x
  simp [enS]
def ziu (n : Nat) : List FormL := refT.filter fun f => decide (f.op < (n : Int))
theorem zuF : (List.range 256).all (fun n => decide (ziu (n + 1) = ziu n ++ (zbv n).toList) && decide ((zbv n).isSome = true → refT.getD (ziu n).length zeroF = (zbv n).getD zeroF ∧ (ziu n).length < refT.length)) = true := by decide +kernel
theorem zjy {n : Nat} (h : n < 256) : ziu (n + 1) = ziu n ++ (zbv n).toList ∧ ((zbv n).isSome = true → refT.getD (ziu n).length zeroF = (zbv n).getD zeroF ∧ (ziu n).length < refT.length) := by
  have := List.all_eq_true.1 zuF n (List.mem_range.2 h)
  simpa only [Bool.and_eq_true, decide_eq_true_eq] using this
theorem zmQ {n : Nat} (h : n < 256) (hs : (zbv n).isSome = false) : ziu (n + 1) = ziu n := by
  rw [(zjy h).1, show zbv n = none by simpa using hs]; simp
theorem zmP {n : Nat} (h : n < 256) (hs : (zbv n).isSome = true) : ziu (n + 1) = ziu n ++ [(zbv n).getD zeroF] := by
  rw [(zjy h).1]
  obtain ⟨f, hf⟩ := Option.isSome_iff_exists.1 hs
  rw [hf]; rfl
theorem zpR : ziu 256 = refT := by decide +kernel
theorem zya : ziu 0 = [] := by decide +kernel
end Go.SK
namespace Go.SK
section
variable {fm : FormL} {bound op : Int} {l : List Int}
theorem H1.no (h : fm.ty = false) : H1 fm l bound 0 0 0 := ⟨Nat.zero_le _, fun _ => ⟨by rw [b2n, h]; rfl, by rw [h]; rfl, by rw [h]; simp, by rw [h]; simp⟩, fun h => absurd rfl h⟩
theorem H2.no {a : Nat} {ty e : Int} (h : H1 fm l bound a ty e) (hr : fm.res = false) (he : e = 0) : H2 fm l bound a ty 0 e := by
  have h1 := h.2.1 he
  refine ⟨h.1, fun _ => ⟨?_, by rw [b2n.eq_def fm.res, hr]; exact h1.1, h1.2.1, by rw [hr]; rfl⟩, fun h2 => absurd he h2⟩
  unfold ze3
  rw [if_neg h1.2.2.1, if_neg h1.2.2.2, if_neg (by rw [hr]; simp), if_neg (by rw [hr]; simp)]
end
end Go.SK
namespace Go.SK
section
variable {fm : FormL} {bound : Int} {l : List Int}
theorem A1.more {a m : Nat} {ags : List ArgP} {c : Int} {x : ArgP} (h : A1 fm l bound a 0 ags) (hc : zaP fm (ags.length : Int) = c) (hgo : l.length - a > 0 ∨ ags.length < fm.fixed.length) (hE : zit c (l.drop a) bound = (x, m, 0)) : A1 fm l bound (a + m) 0 (ags ++ [x]) ∧ 1 ≤ m ∧ a + m ≤ l.length := by
  have hok := zmO (c := c) (ws := l.drop a) (b := bound) (by rw [hE])
  have hl := h.1
  rw [hE, List.length_drop] at hok
  dsimp only at hok
  refine ⟨?_, hok.1, by omega⟩
  have := h.step (a2 := a + m) (ags2 := ags ++ [x]) hc hgo (fun _ => by rw [hE]; exact ⟨rfl, rfl⟩) (by omega) (by simp) (.inl (by omega))
  rw [hE] at this
  exact this
end
end Go.SK
namespace Go.SK
open Go.RowKit Go.ChangeShapes Go.WideShapes Go.ChangeAt
section
variable {P : Program} {b : Base} {k : List Item} {f : Nat → Value} {w : World} {E : Frame → World → Prop} {ops : Array Oper} {l : List Oper} {d : Option Tmp} {ty : TypeId} {pos : String} {aft : Array Edge} {x : Operand}
theorem AH {a : Int} (h : ev b.n f x = .int .u16 a) (hk : RunL P b ops l k (zhB f d (.int .u16 a)) w E) : RunL P b ops (asO x d ty pos aft :: l) k f w E := RunL.cons (Op1.assign h hk)
end
end Go.SK
namespace Go.SK
open Go.RowKit
abbrev lUU (x0 : Int) (x1 : Int) : List Value := [.int .u32 x0, .int .u32 x1]
abbrev gUU (x0 : Int) (x1 : Int) : Value := .agg #[.int .u32 x0, .int .u32 x1]
end Go.SK
namespace Go.SK
open Go.RowKit
variable {P : Program} {b : Base} {k : List Item} {E : Frame → World → Prop} {ops : Array Oper} {f : Nat → Value} {w0 w : World} {M : Nat → Prop} {L D : List Res} {pd : zkN} {tk : zdC} {bs : List Nat} {ds : List (Option Nat)} {i : Nat} {l : List Oper} {ws : Nat → zhe}
theorem zfY {d : Option Tmp} {op : Op} {ty : TypeId} {pos : String} {aft : Array Edge} (wd : zu8) (htab : DrawTab ops bs ds) (i' : Nat)
    (hv : ∀ f' L' w', Know1 tk bs ds f w0 M L D i ws f' L' w' → (∀ j r r', (j, r, r') ∈ pd → zm4 (bs.getD j 0) i = true → r ∈ L') → Op1 P op ty (ev b.n f') w' (fun v w'' => ∃ rs, wd v rs ∧ St w0 M (rs ++ (L' ++ L)) D w''))
    (h : RunD tk pd P b ops bs ds k E f w0 M L D w i' l (zo9 ws i (cw wd))) (hi : i + 1 = i' := by rfl) (hd : zdi op = false := by rfl) (hp : (pd.all fun p => !(Nat.beq p.1 i)) = true := by rfl) (hk : zvi tk i = true := by rfl) : RunD tk pd P b ops bs ds k E f w0 M L D w i (⟨d, op, ty, pos, aft, none⟩ :: l) ws := by
  subst hi
  refine RunD.cons (cw wd) (fun ho φ hφ hi2 o ho' f' L' L'' w' hc => ?_) h
  rw [ho] at ho'
  obtain rfl := Option.some.inj ho'
  refine .inl ⟨rfl, hd, ?_⟩
  have := hv f' L' w' (zeh htab hφ ho hc) (fun j r r' hp hb => hc.later (j, r, r') hp (by rw [htab.waits, zeG]; exact hb))
  rw [hi2, hc.turn.same (zgS hp) (zdY hk)]
  exact this
theorem Rem.perm2 {r : Res} {A X : List Res} (h : Rem r A X) : A.Perm (r :: X) := by
  induction h with
  | here => exact List.Perm.refl _
  | there _ ih => exact (List.Perm.cons _ ih).trans (List.Perm.swap _ _ _)
theorem Rem.mem2 {r : Res} {A X : List Res} (h : Rem r A X) : r ∈ A := (h.perm2.mem_iff).2 (.head _)
theorem St.callRem {A X : List Res} {r r' : Res} {w' w'' : World} (h : St w0 M A D w') (hr : Rem r A X) (hc : St w' r.foot [r'] [] w'') : St w0 M (r' :: X) D w'' :=
  (h.perm hr.perm2).call1 hc
end Go.SK
namespace Go.SK
open Go.RowKit
theorem Wu16 {n : Int} (h1 : 0 ≤ n := by omega) (h2 : n ≤ 65535 := by omega) : IntKind.u16.wrap n = n := zvm h1 h2
end Go.SK
namespace Go.SK
open Go.RowKit
theorem Rem.u7 {r : Res} {x0 x1 x2 x3 x4 x5 x6 : Res} {L : List Res} : Rem r (x0 :: x1 :: x2 :: x3 :: x4 :: x5 :: x6 :: r :: L) (x0 :: x1 :: x2 :: x3 :: x4 :: x5 :: x6 :: L) := .there (.there (.there (.there (.there (.there (.there .here))))))
theorem Sel.u7 {r r' : Res} {x0 x1 x2 x3 x4 x5 x6 : Res} {L : List Res} : Sel r r' (x0 :: x1 :: x2 :: x3 :: x4 :: x5 :: x6 :: r :: L) (x0 :: x1 :: x2 :: x3 :: x4 :: x5 :: x6 :: r' :: L) := .there (.there (.there (.there (.there (.there (.there .here))))))
theorem Q8 {α : Type} {y : α} {x0 x1 x2 x3 x4 x5 x6 x7 : α} {L : List α} : List.Mem y (x0 :: x1 :: x2 :: x3 :: x4 :: x5 :: x6 :: x7 :: y :: L) := .tail _ (.tail _ (.tail _ (.tail _ (.tail _ (.tail _ (.tail _ (.tail _ (.head _))))))))
theorem Rem.u9 {r : Res} {x0 x1 x2 x3 x4 x5 x6 x7 x8 : Res} {L : List Res} : Rem r (x0 :: x1 :: x2 :: x3 :: x4 :: x5 :: x6 :: x7 :: x8 :: r :: L) (x0 :: x1 :: x2 :: x3 :: x4 :: x5 :: x6 :: x7 :: x8 :: L) := .there (.there (.there (.there (.there (.there (.there (.there (.there .here))))))))
theorem Sel.u9 {r r' : Res} {x0 x1 x2 x3 x4 x5 x6 x7 x8 : Res} {L : List Res} : Sel r r' (x0 :: x1 :: x2 :: x3 :: x4 :: x5 :: x6 :: x7 :: x8 :: r :: L) (x0 :: x1 :: x2 :: x3 :: x4 :: x5 :: x6 :: x7 :: x8 :: r' :: L) := .there (.there (.there (.there (.there (.there (.there (.there (.there .here))))))))
theorem Q9 {α : Type} {y : α} {x0 x1 x2 x3 x4 x5 x6 x7 x8 : α} {L : List α} : List.Mem y (x0 :: x1 :: x2 :: x3 :: x4 :: x5 :: x6 :: x7 :: x8 :: y :: L) := .tail _ (.tail _ (.tail _ (.tail _ (.tail _ (.tail _ (.tail _ (.tail _ (.tail _ (.head _)))))))))
theorem Rem.u10 {r : Res} {x0 x1 x2 x3 x4 x5 x6 x7 x8 x9 : Res} {L : List Res} : Rem r (x0 :: x1 :: x2 :: x3 :: x4 :: x5 :: x6 :: x7 :: x8 :: x9 :: r :: L) (x0 :: x1 :: x2 :: x3 :: x4 :: x5 :: x6 :: x7 :: x8 :: x9 :: L) := .there (.there (.there (.there (.there (.there (.there (.there (.there (.there .here)))))))))
theorem Sel.u10 {r r' : Res} {x0 x1 x2 x3 x4 x5 x6 x7 x8 x9 : Res} {L : List Res} : Sel r r' (x0 :: x1 :: x2 :: x3 :: x4 :: x5 :: x6 :: x7 :: x8 :: x9 :: r :: L) (x0 :: x1 :: x2 :: x3 :: x4 :: x5 :: x6 :: x7 :: x8 :: x9 :: r' :: L) := .there (.there (.there (.there (.there (.there (.there (.there (.there (.there .here)))))))))
theorem Q10 {α : Type} {y : α} {x0 x1 x2 x3 x4 x5 x6 x7 x8 x9 : α} {L : List α} : List.Mem y (x0 :: x1 :: x2 :: x3 :: x4 :: x5 :: x6 :: x7 :: x8 :: x9 :: y :: L) := .tail _ (.tail _ (.tail _ (.tail _ (.tail _ (.tail _ (.tail _ (.tail _ (.tail _ (.tail _ (.head _))))))))))
theorem Rem.u11 {r : Res} {x0 x1 x2 x3 x4 x5 x6 x7 x8 x9 x10 : Res} {L : List Res} : Rem r (x0 :: x1 :: x2 :: x3 :: x4 :: x5 :: x6 :: x7 :: x8 :: x9 :: x10 :: r :: L) (x0 :: x1 :: x2 :: x3 :: x4 :: x5 :: x6 :: x7 :: x8 :: x9 :: x10 :: L) := .there (.there (.there (.there (.there (.there (.there (.there (.there (.there (.there .here))))))))))
theorem Sel.u11 {r r' : Res} {x0 x1 x2 x3 x4 x5 x6 x7 x8 x9 x10 : Res} {L : List Res} : Sel r r' (x0 :: x1 :: x2 :: x3 :: x4 :: x5 :: x6 :: x7 :: x8 :: x9 :: x10 :: r :: L) (x0 :: x1 :: x2 :: x3 :: x4 :: x5 :: x6 :: x7 :: x8 :: x9 :: x10 :: r' :: L) := .there (.there (.there (.there (.there (.there (.there (.there (.there (.there (.there .here))))))))))
theorem Q11 {α : Type} {y : α} {x0 x1 x2 x3 x4 x5 x6 x7 x8 x9 x10 : α} {L : List α} : List.Mem y (x0 :: x1 :: x2 :: x3 :: x4 :: x5 :: x6 :: x7 :: x8 :: x9 :: x10 :: y :: L) := .tail _ (.tail _ (.tail _ (.tail _ (.tail _ (.tail _ (.tail _ (.tail _ (.tail _ (.tail _ (.tail _ (.head _)))))))))))
theorem Rem.u12 {r : Res} {x0 x1 x2 x3 x4 x5 x6 x7 x8 x9 x10 x11 : Res} {L : List Res} : Rem r (x0 :: x1 :: x2 :: x3 :: x4 :: x5 :: x6 :: x7 :: x8 :: x9 :: x10 :: x11 :: r :: L) (x0 :: x1 :: x2 :: x3 :: x4 :: x5 :: x6 :: x7 :: x8 :: x9 :: x10 :: x11 :: L) := .there (.there (.there (.there (.there (.there (.there (.there (.there (.there (.there (.there .here)))))))))))
theorem Sel.u12 {r r' : Res} {x0 x1 x2 x3 x4 x5 x6 x7 x8 x9 x10 x11 : Res} {L : List Res} : Sel r r' (x0 :: x1 :: x2 :: x3 :: x4 :: x5 :: x6 :: x7 :: x8 :: x9 :: x10 :: x11 :: r :: L) (x0 :: x1 :: x2 :: x3 :: x4 :: x5 :: x6 :: x7 :: x8 :: x9 :: x10 :: x11 :: r' :: L) := .there (.there (.there (.there (.there (.there (.there (.there (.there (.there (.there (.there .here)))))))))))
theorem E8 {f : Nat → Value} {t0 t1 t2 t3 t4 t5 t6 t7 : Nat} : Slots f [(t0, f t0), (t1, f t1), (t2, f t2), (t3, f t3), (t4, f t4), (t5, f t5), (t6, f t6), (t7, f t7)] := ⟨rfl, rfl, rfl, rfl, rfl, rfl, rfl, rfl, trivial⟩
theorem rg3 : List.range 3 = [0, 1, 2] := rfl
theorem rg5 : List.range 5 = [0, 1, 2, 3, 4] := rfl
end Go.SK
namespace Go.SK
theorem zvG (s : Tx) : (zch s).all zji = true := by
  unfold zch; simp [List.all_takeWhile]
end Go.SK
namespace Go.SK
theorem zkd {P : Nat → Prop} {i : Nat} (h : ∀ j, j < i → P j) (hi : P i) : ∀ j, j < i + 1 → P j := fun j hj => by
  rcases Nat.lt_or_ge j i with h1 | h1
  · exact h j h1
  · obtain rfl : j = i := by omega
    exact hi
end Go.SK
namespace Go.SK
theorem tok_wr {s t : Tx} {kd at_ : Int} {m : Nat} (h0 : 0 < s.length) (h : zf7 s = .ok (kd, t, m)) : ∃ x, wrT ⟨kd, t, at_⟩ = some x := by
  have hs : s.drop 0 = s := rfl
  have h1 : s.drop (0 + 1) = s.drop 1 := rfl
  by_cases hl : zfv (s.getD 0 0) = true
  · have e := zhI (a := 0) hl
    rw [hs, h] at e; cases e
    have hst := zhO (s := s) (i := 0) h0 (zxB hl)
    rw [hs] at hst
    have hg : (zch s).getD 0 0 = s.getD 0 0 := by
      rw [← zgm s rfl]
      cases s with
      | nil => simp at h0
      | cons c r => rw [show (zch (c :: r)).length = ((zch (c :: r)).length - 1) + 1 by omega, List.take_succ_cons]; rfl
    exact ⟨_, zqs rfl (List.length_pos_iff.1 (by show 0 < (zch s).length; omega)) (by rw [hg]; exact hl) (zhR (zvG s))⟩
  by_cases h37 : (s.getD 0 0).toNat = 37
  · have e := zqx (a := 0) h37
    rw [hs, h, h1] at e; split at e
    · rename_i hp; cases e; exact ⟨_, zqr rfl hp⟩
    · cases e
  by_cases hd : zdT (s.getD 0 0) = true ∨ (s.getD 0 0).toNat = 45
  · have e := zl3 (a := 0) hd
    rw [hs, h, h1] at e; split at e
    · rename_i hp; cases e; exact ⟨_, zqq rfl hp⟩
    · cases e
  by_cases h34 : (s.getD 0 0).toNat = 34
  · have e := zl2 (a := 0) h34
    rw [hs, h] at e
    cases hq : zgR s (0 + 1) with
    | none => rw [hq] at e; cases e
    | some q => rw [hq] at e; cases e; exact ⟨_, zm9 rfl⟩
  by_cases h61 : (s.getD 0 0).toNat = 61
  · have e := zng (a := 0) h61
    rw [hs, h] at e; cases e; exact ⟨_, zjC rfl rfl⟩
  · have e := zl5 (a := 0) hl h37 (fun q => hd (.inl q)) (fun q => hd (.inr q)) h34 h61
    rw [hs, h] at e; cases e
theorem zpf : ∀ (n : Nat) (s : Tx) (k : Nat), ∃ o, wrL (zdh n s k).1 = some o
  | 0, s, k => ⟨[], rfl⟩
  | n + 1, s, k => by
    rw [zdh]
    split
    · exact ⟨[], rfl⟩
    · rename_i h0
      have h0' : 0 < s.length := by rcases Nat.eq_zero_or_pos s.length with h | h; exact absurd (.inl h) h0; exact h
      split
      · exact zpf n _ _
      · cases hp : zf7 s with
        | error e => exact ⟨[], rfl⟩
        | ok q =>
          dsimp only
          split
          · obtain ⟨x, hx⟩ := tok_wr (at_ := (k : Int)) (kd := q.1) (t := q.2.1) (m := q.2.2) h0' hp
            obtain ⟨o, ho⟩ := zpf n (s.drop q.2.2) (k + q.2.2)
            exact ⟨x :: o, by rw [wrL, hx, Option.bind_some, ho]; rfl⟩
          · exact ⟨[], rfl⟩
end Go.SK
namespace Go.SK
theorem zhH (s : Tx) : (za7 s).1.length ≤ s.length := (zl1 _ s 0 (Nat.le_refl _)).2
theorem zrF {s : Tx} (h : (za7 s).2.1 = 0) : za7 s = ((za7 s).1, (0, 0)) := Prod.ext rfl (ziA _ _ _ h)
end Go.SK
namespace Go.SK
section
variable {n : Int} {l : List TokL}
theorem head0 (h : l.length = 0) : zcK n l = ((0, 0), (72, n)) := by unfold zcK; rw [if_pos h]
theorem zxS (h0 : ¬ l.length = 0) (h : (l.getD 0 zaR).kind ≠ 1 ∨ (l.getD 0 zaR).text ≠ modW) : zcK n l = ((0, 0), (70, (l.getD 0 zaR).at_)) := by unfold zcK; rw [if_neg h0, if_pos h]
theorem head2 (hk : (l.getD 0 zaR).kind = 1) (ht : (l.getD 0 zaR).text = modW) (h : l.length = 1) : zcK n l = ((0, 0), (72, n)) := by unfold zcK; rw [if_neg (by omega), if_neg (by rintro (q | q) <;> contradiction), if_pos h]
end
end Go.SK
namespace Go.SK
structure dgI (t : Tx) (m i n : Nat) : Prop where
  le : i ≤ t.length
  eq : zcl (t.drop i) n = some m
  lt : n ≤ m
  small : m < 4294967296
  pl : plR t = m
  len : t.length ≤ 10
section
variable {t : Tx} {m i n : Nat}
theorem zoo (h : zbn t = some m) : dgI t m 0 0 := by
  have h1 := zj3 h
  have hl : t.length ≤ 10 := by
    unfold zbn at h
    split at h
    · cases h
    · omega
  refine ⟨Nat.zero_le _, ?_, Nat.zero_le _, h1.2, h1.1, hl⟩
  unfold zbn at h
  split at h
  · cases h
  · cases hd : zcl t 0 with
    | none => rw [hd] at h; cases h
    | some k =>
      rw [hd] at h
      simp only [Option.bind_some] at h
      split at h
      · exact hd.trans h
      · cases h
theorem zur (h : dgI t m i n) (hi : i < t.length) : zdT (t.getD i 0) = true := by
  cases hd : zdT (t.getD i 0) with
  | true => rfl
  | false =>
    have := zkq (n := n) hi (by rw [hd]; simp)
    rw [h.eq] at this; cases this
theorem zwr (h : dgI t m i n) (hi : i < t.length) : 48 ≤ (t.getD i 0).toNat ∧ (t.getD i 0).toNat ≤ 57 := of_decide_eq_true (zur h hi)
theorem zre (h : dgI t m i n) (hi : i < t.length) : dgI t m (i + 1) (10 * n + ((t.getD i 0).toNat - 48)) := by
  have e := zkr (n := n) hi (zur h hi)
  have e2 := h.eq
  rw [e] at e2
  exact ⟨hi, e2, zks _ _ _ e2, h.small, h.pl, h.len⟩
theorem zwq (h : dgI t m i n) (hi : i < t.length) : 10 * n + ((t.getD i 0).toNat - 48) ≤ m := (zre h hi).lt
theorem zxq {bound : Int} (h : dgI t m i n) (hi : t.length ≤ i) : idL t bound = if 1 ≤ (n : Int) ∧ (n : Int) < bound then (n : Int) else 0 := by
  have e := h.eq
  rw [zmE hi] at e
  injection e with e
  unfold idL; rw [h.pl, ← e]
theorem zx1 {bound : Int} (h : dgI t m i n) (hi : t.length ≤ i) (hb : (n : Int) ≥ bound) : idL t bound = 0 := by rw [zxq h hi, if_neg (by omega)]
theorem dgI_ok {bound : Int} (h : dgI t m i n) (hi : t.length ≤ i) (hb : ¬ (n : Int) ≥ bound) : idL t bound = (n : Int) := by
  rw [zxq h hi]
  split
  · rfl
  · omega
end
end Go.SK
namespace Go.SK
section
variable {c bound : Int} {t : TokL}
theorem zeH (hc : c ≠ 0) (h : t.kind ≠ zd2 c) : zb9 c t bound = (zeroA, 70) := if_pos (.inr h)
theorem zjx (h : t.kind = 2) (h2 : idL t.text bound = 0) : zb9 105 t bound = (zeroA, 43) := by
  unfold zb9; rw [if_neg (by simp [zd2, h]), if_pos rfl, if_pos h2]
theorem zmN (h : t.kind = 2) (h2 : idL t.text bound ≠ 0) : zb9 105 t bound = (⟨1, idL t.text bound, []⟩, 0) := by
  unfold zb9; rw [if_neg (by simp [zd2, h]), if_pos rfl, if_neg h2]
theorem zox (h : t.kind = 3) (h2 : (zba t.text).2 ≠ 0) : zb9 110 t bound = (zeroA, (zba t.text).2) := by
  unfold zb9; rw [if_neg (by simp [zd2, h]), if_neg (by decide), if_pos rfl, if_pos h2]
theorem zrn (h : t.kind = 3) (h2 : (zba t.text).2 = 0) : zb9 110 t bound = (⟨2, (zba t.text).1, []⟩, 0) := by
  unfold zb9; rw [if_neg (by simp [zd2, h]), if_neg (by decide), if_pos rfl, if_neg (by rw [h2]; simp)]
theorem zow (h : t.kind = 4) (h2 : zbS t.text ≠ t.text.length) : zb9 115 t bound = (zeroA, 13) := by
  unfold zb9; rw [if_neg (by simp [zd2, h]), if_neg (by decide), if_neg (by decide), if_pos rfl, if_pos h2]
theorem zrm (h : t.kind = 4) (h2 : zbS t.text = t.text.length) : zb9 115 t bound = (⟨3, 0, t.text⟩, 0) := by
  unfold zb9; rw [if_neg (by simp [zd2, h]), if_neg (by decide), if_neg (by decide), if_pos rfl, if_neg (by rw [h2]; simp)]
theorem zfw (h : c ≠ 105) (h1 : c ≠ 110) (h2 : c ≠ 115) : zd2 c = 1 := by unfold zd2; rw [if_neg h, if_neg h1, if_neg h2]
theorem zlM (h0 : c ≠ 0) (h : c ≠ 105) (h1 : c ≠ 110) (h2 : c ≠ 115) (hk : t.kind = 1) (hf : (namesL.find? (enS c t.text)).isSome = false) : zb9 c t bound = (zeroA, 71) := by
  unfold zb9; rw [if_neg (by simp [zfw h h1 h2, hk, h0]), if_neg h, if_neg h1, if_neg h2, if_pos hf]
theorem zoz (h0 : c ≠ 0) (h : c ≠ 105) (h1 : c ≠ 110) (h2 : c ≠ 115) (hk : t.kind = 1) (hf : (namesL.find? (enS c t.text)).isSome = true) : zb9 c t bound = (⟨4, ((namesL.find? (enS c t.text)).getD zcz).n, []⟩, 0) := by
  unfold zb9; rw [if_neg (by simp [zfw h h1 h2, hk, h0]), if_neg h, if_neg h1, if_neg h2, if_neg (by rw [hf]; simp)]
end
end Go.SK
namespace Go.SK
section
variable {n bound : Int} {l : List TokL} {m : Nat} {fm : FormL} {res ty : Int} {q j : Nat} {ags : List ArgP}
theorem zqS (hk : (l.getD 0 zaR).kind = 2) (h0 : 0 < l.length) (h1 : l.length ≤ 1) : zcV n l bound = (zeroIL, false, (72, n)) := by
  unfold zcV; rw [if_neg (by omega), if_pos ⟨hk, by omega⟩]
theorem znO (hk : (l.getD 0 zaR).kind = 2) (h1 : 1 < l.length) (h5 : (l.getD 1 zaR).kind ≠ 5) : zcV n l bound = (zeroIL, false, (70, (l.getD 1 zaR).at_)) := by
  unfold zcV; rw [if_neg (by omega), if_neg (fun q => by omega), if_pos ⟨hk, h5⟩]
theorem LnA.early (h : LnA l m) (hl : l.length ≤ m) : zcV n l bound = (zeroIL, false, (72, n)) := by
  rw [h.rest, if_pos (by have := h.le; omega)]
theorem LnA.noword (h : LnA l m) (hl : m < l.length) (hk : (l.getD m zaR).kind ≠ 1) : zcV n l bound = (zeroIL, false, (70, (l.getD m zaR).at_)) := by
  rw [h.rest, if_neg (by omega), if_pos hk]
theorem LnA.noname (h : LnA l m) (hl : m < l.length) (hk : (l.getD m zaR).kind = 1) (hf : (refT.find? (nmF (l.getD m zaR).text)).isSome = false) : zcV n l bound = (zeroIL, false, (71, (l.getD m zaR).at_)) := by
  rw [h.rest, if_neg (by omega), if_neg (fun q => q hk), if_pos hf]
theorem LnB.mk2 (a : LnA l m) (lt : m < l.length) (k1 : (l.getD m zaR).kind = 1) (hs : (refT.find? (nmF (l.getD m zaR).text)).isSome = true) (hf : (refT.find? (nmF (l.getD m zaR).text)).getD zeroF = fm) : LnB l m fm := by
  refine ⟨a, lt, k1, ?_⟩
  obtain ⟨x, hx⟩ := Option.isSome_iff_exists.1 hs
  rw [hx] at hf ⊢
  exact congrArg some hf
theorem LnB.nores (h : LnB l m fm) (hr : fm.res ≠ decide ((l.getD 0 zaR).kind = 2)) : zcV n l bound = (zeroIL, false, (41, (l.getD 0 zaR).at_)) := by
  rw [h.rest]; unfold zgq; rw [if_pos hr]
theorem LnB.noid (h : LnB l m fm) (hr : fm.res = decide ((l.getD 0 zaR).kind = 2)) (hk : (l.getD 0 zaR).kind = 2) (hi : idL (l.getD 0 zaR).text bound = 0) : zcV n l bound = (zeroIL, false, (43, (l.getD 0 zaR).at_)) := by
  rw [h.rest]; unfold zgq; rw [if_neg (fun q => q hr), if_pos ⟨hk, hi⟩]
theorem LnC.early (h : LnC bound l m fm res) (ht : fm.ty = true) (hl : l.length ≤ m + 1) : zcV n l bound = (zeroIL, false, (72, n)) := by
  rw [h.pre, if_pos ⟨ht, by have := h.b.lt; omega⟩]
theorem LnC.notid (h : LnC bound l m fm res) (ht : fm.ty = true) (hl : m + 1 < l.length) (hk : (l.getD (m + 1) zaR).kind ≠ 2) : zcV n l bound = (zeroIL, false, (70, (l.getD (m + 1) zaR).at_)) := by
  rw [h.pre, if_neg (fun q => by omega), if_pos ⟨ht, hk⟩]
theorem LnC.noid (h : LnC bound l m fm res) (ht : fm.ty = true) (hl : m + 1 < l.length) (hk : (l.getD (m + 1) zaR).kind = 2) (hi : idL (l.getD (m + 1) zaR).text bound = 0) : zcV n l bound = (zeroIL, false, (43, (l.getD (m + 1) zaR).at_)) := by
  rw [h.pre, if_neg (fun q => by omega), if_neg (fun q => q.2 hk), if_pos ⟨ht, hi⟩]
theorem LnI.yes (c : LnC bound l m fm res) (ht : fm.ty = true) (h : ty = idL (l.getD (m + 1) zaR).text bound) (h0 : idL (l.getD (m + 1) zaR).text bound ≠ 0) (hl : m + 1 < l.length) (hk : (l.getD (m + 1) zaR).kind = 2) : LnI bound l m fm res ty (m + 2) := ⟨c, fun _ => ⟨h, (by rw [h]; exact h0), hl, hk⟩, fun q => (by rw [ht] at q; cases q), (by rw [ht]; rfl)⟩
theorem LnI.no (c : LnC bound l m fm res) (ht : fm.ty = false) : LnI bound l m fm res 0 (m + 1) := ⟨c, fun q => (by rw [ht] at q; cases q), fun _ => rfl, by rw [ht]; rfl⟩
theorem LnI.nofit (h : LnI bound l m fm res ty q) (hA : ArI fm bound l q j ags) (hj : l.length ≤ q + j) (hf : (zej fm.op (ags.map ArgP.kind)).2 = false) : zcV n l bound = (zeroIL, false, (72, n)) := by
  rw [h.rest, hA.fin hj, if_neg (by simp), if_pos hf]
end
end Go.SK
namespace Go.SK
open Go.RowKit
theorem zwE {α : Type} {P : Program} {b : Base} {l : Nat} {X : Code} {k K : List Item} {E : Frame → World → Prop} {w0 : World} {M : Nat → Prop} {L1 L2 D : List Res} {F : Nat → Value} {w : World} (hg : gotoIn l K = some (.code (.seq .skip X) :: k)) (kv : List (Nat × Value)) (hst : St w0 M (L1 ++ L2) D w) (hkv : Slots F kv) (st : α → List (Nat × Value)) (Lm : α → List Res) (J : α → Prop)
    (h2 : ∀ (a : α) (f : Nat → Value) (w : World), St w0 M (Lm a ++ L2) D w → J a → Run P b (.code X :: k) (sts (st a) (sts kv f)) w E)
    (h1 : (∀ (a : α) (f : Nat → Value) (w : World), St w0 M (Lm a ++ L2) D w → J a → Slots f kv → Slots f (st a) → Run P b (.code X :: k) f w E) → Run P b K F w E) : Run P b K F w E :=
  h1 fun a f w hs hJ hk hsl => by
    have := h2 a f w hs hJ
    rw [zdq hk] at this
    rwa [zdq hsl] at this
theorem zxD : refT.all (fun f => decide (0 ≤ f.op ∧ f.op < 65536)) = true := by decide +kernel
section
variable {n bound : Int} {l : List TokL} {m : Nat} {fm : FormL} {res ty : Int} {q j : Nat} {ags : List ArgP}
theorem LnB.op0 (h : LnB l m fm) : 0 ≤ fm.op ∧ fm.op < 65536 := of_decide_eq_true (List.all_eq_true.1 zxD fm (List.mem_of_find?_eq_some h.fd))
theorem LnI.wrong (h : LnI bound l m fm res ty q) (hA : ArI fm bound l q j ags) (hj : l.length ≤ q + j) (hf : (zej fm.op (ags.map ArgP.kind)).2 = true) {re : Int} (hre : re = zbu bound ⟨fm.op, ty, res, ags⟩) (h0 : re ≠ 0) : zcV n l bound = (zeroIL, false, (re, 0)) := by
  have h1 := h.fit (n := n) hA hj hf
  rw [h1.2] at hre
  by_cases hr : zbT fm ags > 65535
  · rw [if_pos hr] at hre; rw [h1.1, if_pos hr, hre]
  · rw [if_neg hr] at hre; exact absurd hre h0
end
end Go.SK
namespace Go.SK
open Go.RowKit
theorem zb7 : zeroIL.Sm := ⟨by decide, (fun a h => by cases h), by decide⟩
theorem zfG (s : Tx) : ∀ i, i < (za7 s).1.length → ((za7 s).1.getD i zaR).kind = 2 → ∃ m, zbn ((za7 s).1.getD i zaR).text = some m := fun i hi hk => by
  obtain ⟨o, ho⟩ := zpf s.length s 0
  have hw := (zjY _ o 0 i ho hi).2
  have hw2 : wrT ((za7 s).1.getD i zaR) = some _ := hw
  unfold wrT at hw2
  rw [if_neg (by rw [hk]; decide), if_pos hk] at hw2
  split at hw2
  · rename_i h; exact zfy h
  · cases hw2
section
variable {n bound : Int} {l : List TokL} {m : Nat} {fm : FormL} {res ty : Int} {q j : Nat} {ags : List ArgP}
theorem LnI.big (h : LnI bound l m fm res ty q) (hA : ArI fm bound l q j ags) (hj : l.length ≤ q + j) (hf : (zej fm.op (ags.map ArgP.kind)).2 = true) (hr : zbT fm ags > 65535) : zcV n l bound = (zeroIL, false, (25, 0)) := by
  rw [(h.fit hA hj hf).1, if_pos hr]
theorem zcC {s : Tx} (h : ¬ (za7 s).2.1 ≠ 0) : zaT s bound = zcV s.length (za7 s).1 bound := if_neg h
theorem znR {s : Tx} (h : (za7 s).2.1 ≠ 0) : zaT s bound = (zeroIL, false, (za7 s).2) := if_pos h
theorem zlA {s : Tx} (h : ¬ (za7 s).2.1 ≠ 0) (h0 : (za7 s).1.length = 0) : zaT s bound = (zeroIL, false, (za7 s).2) := by
  rw [zcC h, zrF (Nn h)]
  unfold zcV; rw [if_pos h0]
end
end Go.SK
namespace Go.SK
section
variable {t : Tx} {a ln : Int} {i en : Nat}
theorem endJ.no (h : endJ t a i ln en) (hi : i < t.length) (h10 : ¬ (t.getD i 0).toNat = 10) : endJ t a (i + 1) ln en := by
  refine ⟨by rw [zgU hi, if_neg h10]; exact h.1, ?_⟩
  rcases h.2 with h2 | h2
  · exact .inl h2
  · exact .inr ⟨by omega, h2.2⟩
end
end Go.SK
namespace Go.SK
open Go.RowKit
theorem zrJ (r : Res) : (Res.star [Res.star [], r]).foot = r.foot := by
  funext b
  apply propext
  constructor
  · rintro ⟨q, hq, hb⟩
    rcases List.mem_cons.1 hq with rfl | hq
    · obtain ⟨z, hz, _⟩ := hb; cases hz
    · obtain rfl := List.mem_singleton.1 hq; exact hb
  · exact fun hb => ⟨r, .tail _ (.head _), hb⟩
def itemV (item : Nat → List Value) : Nat → List Value → Res → Prop := fun i vs r => vs = item i ∧ r = Res.star []
theorem zwt (r : Tx) : (zfE r).length ≤ r.length := by unfold zfE; exact (List.takeWhile_sublist _).length_le
theorem zw0 : ∀ (n : Nat) (r : Tx) (i : Nat), r.length ≤ n → ((lnF r).getD i []).length ≤ r.length
  | 0, r, i, h => by rw [zdG (by omega)]; exact Nat.zero_le _
  | n + 1, r, i, h => by
    rcases Nat.eq_zero_or_pos r.length with h0 | h0
    · rw [zdG h0]; exact Nat.zero_le _
    · rw [zdR h0]
      have hb := zfV r
      cases i with
      | zero => exact zwt r
      | succ i => have := zw0 n (zhd r) i Om; show ((lnF (zhd r)).getD i []).length ≤ _; omega
theorem ztW (r : Tx) (i : Nat) : ((lnF r).getD i []).length ≤ r.length := zw0 _ r i (Nat.le_refl _)
theorem zvZ {n bound : Int} {l : List TokL} {fm : FormL} (h : (zgq n l bound fm).2.1 = true) : (zgq n l bound fm).2.2 = (0, 0) := by
  unfold zgq at h ⊢
  split at h
  · cases h
  rename_i h1; rw [if_neg h1]
  split at h
  · cases h
  rename_i h1; rw [if_neg h1]
  split at h
  · cases h
  rename_i h1; rw [if_neg h1]
  split at h
  · cases h
  rename_i h1; rw [if_neg h1]
  split at h
  · cases h
  rename_i h1; rw [if_neg h1]
  split at h
  · cases h
  rename_i h1; rw [if_neg h1]
  split at h
  · cases h
  rename_i h1; rw [if_neg h1]
  split at h
  · cases h
  rename_i h1; rw [if_neg h1]
theorem zmp {x : Tx} {bound : Int} (h : (zaT x bound).2.1 = true) : (zaT x bound).2.2 = (0, 0) := by
  unfold zaT at h ⊢
  split at h
  · cases h
  rename_i h1; rw [if_neg h1]
  unfold zcV at h ⊢
  split at h
  · cases h
  rename_i h1; rw [if_neg h1]
  split at h
  · cases h
  rename_i h1; rw [if_neg h1]
  split at h
  · cases h
  rename_i h1; rw [if_neg h1]
  split at h
  · cases h
  rename_i h1; rw [if_neg h1]
  split at h
  · cases h
  rename_i h1; rw [if_neg h1]
  split at h
  · cases h
  rename_i h1; rw [if_neg h1]
  exact zvZ h
section
variable {t : Tx} {i : Nat} {gn bd : Int} {words : Nat} {dm : List InstP}
theorem PaM.bdr (h : PaM t i gn bd words dm) (h0 : words ≠ 0) : 1 ≤ bd ∧ bd ≤ 65536 := h.pg.bd h0
theorem PaM.idle (h : PaM t i gn bd words dm) (hi : i < (lnF t).length) (h0 : words = 0) (h1 : (za7 ((lnF t).getD i [])).2.1 = 0) (h2 : (za7 ((lnF t).getD i [])).1.length = 0) : PaM t (i + 1) gn bd words dm := by
  refine h.to hi ?_ h.sm
  unfold zkL; dsimp only; rw [if_pos h0, if_pos ⟨h1, h2⟩]
theorem PaM.nohead (h : PaM t i gn bd words dm) (hi : i < (lnF t).length) (h0 : words = 0) (hn : ¬ ((za7 ((lnF t).getD i [])).2.1 = 0 ∧ (za7 ((lnF t).getD i [])).1.length = 0)) (he : (zcf ((lnF t).getD i [])).2.1 ≠ 0) : zfM 0 (lnF t) ⟨0, 0, 0, []⟩ = zhD (zcf ((lnF t).getD i [])).2.1 ((i : Int) + 1) := by
  refine h.pi.bad hi ?_
  unfold zkL; dsimp only; rw [if_pos h0, if_neg hn, if_pos he]
theorem PaM.noline (h : PaM t i gn bd words dm) (hi : i < (lnF t).length) (h0 : ¬ words = 0) (he : (zaT ((lnF t).getD i []) bd).2.2.1 ≠ 0) : zfM 0 (lnF t) ⟨0, 0, 0, []⟩ = zhD (zaT ((lnF t).getD i []) bd).2.2.1 ((i : Int) + 1) := by
  refine h.pi.bad hi ?_
  unfold zkL; dsimp only; rw [if_neg h0, if_pos he]
theorem PaM.fault (h : PaM t i gn bd words dm) (h0 : ¬ words = 0) (hs : (zaT ((lnF t).getD i []) bd).2.1 = true) : (zaT ((lnF t).getD i []) bd).2.2 = (0, 0) ∧ zbu bd (zaT ((lnF t).getD i []) bd).1 = 0 := by
  have e := zmp hs
  exact ⟨e, ((zlB (h.bdr h0).2 (by rw [e])).2 hs).1⟩
theorem PaM.big (h : PaM t i gn bd words dm) (hi : i < (lnF t).length) (h0 : ¬ words = 0) (hs : (zaT ((lnF t).getD i []) bd).2.1 = true) (hb : words + zbT (zbq (zaT ((lnF t).getD i []) bd).1.op) (zaT ((lnF t).getD i []) bd).1.args > 1048576) : zfM 0 (lnF t) ⟨0, 0, 0, []⟩ = zhD 4 ((i : Int) + 1) := by
  refine h.pi.bad hi ?_
  unfold zkL; dsimp only; rw [if_neg h0, if_neg (by rw [zmp hs]; simp), if_neg (by rw [hs]; simp), if_pos hb]
theorem PaM.more (h : PaM t i gn bd words dm) (hi : i < (lnF t).length) (h0 : ¬ words = 0) (hs : (zaT ((lnF t).getD i []) bd).2.1 = true) (hb : ¬ words + zbT (zbq (zaT ((lnF t).getD i []) bd).1.op) (zaT ((lnF t).getD i []) bd).1.args > 1048576) {y : InstP} (hy : y.L = (zaT ((lnF t).getD i []) bd).1) (hsm : (zaT ((lnF t).getD i []) bd).1.Sm) : PaM t (i + 1) gn bd (words + zbT (zbq (zaT ((lnF t).getD i []) bd).1.op) (zaT ((lnF t).getD i []) bd).1.args) (dm ++ [y]) := by
  refine h.to hi ?_ (fun x hx => ?_)
  · unfold zkL; dsimp only; rw [if_neg h0, if_neg (by rw [zmp hs]; simp), if_neg (by rw [hs]; simp), if_neg hb, List.map_append, List.map_singleton, hy]
  · rcases List.mem_append.1 hx with hx | hx
    · exact h.sm x hx
    · obtain rfl := List.mem_singleton.1 hx; rw [hy]; exact hsm
theorem PaM.fin0 (h : PaM t (lnF t).length gn bd words dm) (h0 : words = 0) : zfM 0 (lnF t) ⟨0, 0, 0, []⟩ = zhD 72 (lnF t).length := by
  rw [h.pi.fin, if_pos h0]
theorem PaM.fin1 (h : PaM t (lnF t).length gn bd words dm) (h0 : ¬ words = 0) : zfM 0 (lnF t) ⟨0, 0, 0, []⟩ = ((gn, bd, dm.map InstP.L), (0, 0)) := by
  rw [h.pi.fin, if_neg h0]
end
theorem zdr {t : Tx} (h : ¬ t.length > 16777216) : zbc t = zfM 0 (lnF t) ⟨0, 0, 0, []⟩ := if_neg h
theorem ze1 {t : Tx} (h : t.length > 16777216) : zbc t = zhD 4 0 := if_pos h
theorem zmj {bound : Int} {i : InstL} (h : zbu bound i = 0) : (zis bound i).1.2.length + 1 = zbT (zbq i.op) i.args ∧ zbT (zbq i.op) i.args ≤ 65535 := by
  have h1 := zlb h
  have h2 := (zes h).2.2.2.2.2
  refine ⟨?_, by omega⟩
  unfold zis; rw [if_neg (by rw [h]; simp)]; exact h1.1
end Go.SK
namespace Go.SK
open Go Go.Proofs
theorem zmz : FldF Tryz.prog 130 4 4 := FldF.of (n := 1) Kr
theorem zdw : FldF Tryz.prog 130 2 2 := FldF.of (n := 0) Kr
theorem ze5 : FldF Tryz.prog 130 1 1 := FldF.of (n := 0) Kr
theorem zuf : zaN Tryz.prog 73 := ⟨Tryz.f73, _, Tryz.func73, Kr, rfl⟩
theorem zmA : FldF Tryz.prog 130 0 0 := FldF.of (n := 0) Kr
theorem zec : zaN Tryz.prog 128 := ⟨Tryz.f128, _, Tryz.func128, Kr, rfl⟩
end Go.SK
namespace Go.SK
open Go Go.Proofs
open Go.RowKit
theorem zbY (bq : Nat) (s : Tx) (ao : Option Addr) (cp : Nat) (l : List TokL) (a : Nat) (bound e p : Int) (e2 p2 : Int) (w : World) (hB : (Res.row bq 130 [str s, .slice ao l.length cp, .int .i64 (a : Int), .int .u32 bound, .int .i64 e, .int .i64 p]).holds w) : Ret Tryz.prog 128 #[.pointer (some ⟨bq, 0, none⟩), .int .i64 e2, .int .i64 p2] w (fun v w' => v = .bool false ∧ St w (Res.row bq 130 [str s, .slice ao l.length cp, .int .i64 (a : Int), .int .u32 bound, .int .i64 e, .int .i64 p]).foot [Res.row bq 130 [str s, .slice ao l.length cp, .int .i64 (a : Int), .int .u32 bound, .int .i64 e2, .int .i64 p2]] [] w') := by
 refine zav (args := [.pointer (some ⟨bq, 0, none⟩), .int .i64 e2, .int .i64 p2]) Tryz.func128 rfl rfl rfl ?_
 have hst : St w (Res.row bq 130 [str s, .slice ao l.length cp, .int .i64 (a : Int), .int .u32 bound, .int .i64 e, .int .i64 p]).foot [Res.row bq 130 [str s, .slice ao l.length cp, .int .i64 (a : Int), .int .u32 bound, .int .i64 e, .int .i64 p]] [] w := St.enter1 hB (fun d hd => by cases hd) (fun d hd => by cases hd)
 refine SR <| AB rfl <| NSR <| MP rfl <| MI rfl <| MI rfl <| CN (zag za0 zcE (.c (v := .int .i64 _) rfl (h := (.c (v := .int .i64 _) rfl (h := .nil)))) ?_)
 refine CN <| zaK rfl <| CN <| zaa zmz rfl <| CN (SO (v := gII _ _) hst za0 rfl rfl .u0 fun w hst => ?_)
 refine NSR <| AB rfl <| NL <| zah Tryz.func128 rfl (TP (v := .bool _) rfl) ?_
 exact ⟨rfl, hst⟩
theorem zgC (bq : Nat) (s : Tx) (ao : Option Addr) (cp : Nat) (l : List TokL) (a : Nat) (bound e p : Int) (w : World) (hB : (Res.row bq 130 [str s, .slice ao l.length cp, .int .i64 (a : Int), .int .u32 bound, .int .i64 e, .int .i64 p]).holds w) : Ret Tryz.prog 73 #[.pointer (some ⟨bq, 0, none⟩)] w (fun v w' => v = .bool (decide (a < l.length)) ∧ St w (Res.row bq 130 [str s, .slice ao l.length cp, .int .i64 (a : Int), .int .u32 bound, .int .i64 e, .int .i64 p]).foot [Res.row bq 130 [str s, .slice ao l.length cp, .int .i64 (a : Int), .int .u32 bound, .int .i64 e, .int .i64 p]] [] w') := by
 refine zav (args := [.pointer (some ⟨bq, 0, none⟩)]) Tryz.func73 rfl rfl rfl ?_
 have hst : St w (Res.row bq 130 [str s, .slice ao l.length cp, .int .i64 (a : Int), .int .u32 bound, .int .i64 e, .int .i64 p]).foot [Res.row bq 130 [str s, .slice ao l.length cp, .int .i64 (a : Int), .int .u32 bound, .int .i64 e, .int .i64 p]] [] w := St.enter1 hB (fun d hd => by cases hd) (fun d hd => by cases hd)
 refine SR <| AB rfl <| NL <| SQ <| RunD.start [] hst (bs := [0, 1, 3, 7, 0, 16, 48, 112, 240, 511, 1023]) (ds := [some 3, some 4, some 5, some 6, some 7, some 8, some 9, some 10, some 11, some 12, some 2]) ⟨Kr, Kr, Kr⟩ (fun tab1 => ?_)
 refine DO tab1 1 (fun f' L' w' hc=> zad (v := Pp _ _) (hc.old rfl rfl rfl) hc.z) <| DO tab1 2 (fun f' L' w' hc=> zaK (hc.d 0 rfl rfl rfl rfl) hc.z) <| DO tab1 3 (fun f' L' w' hc=> zaa zdw (hc.d 1 rfl rfl rfl rfl) hc.z) <| DO tab1 4 (fun f' L' w' hc=> zae (v := .int .i64 _) ty3 rfl (hc.d 2 rfl rfl rfl rfl) (hc.st.cellL (List.mem_append_right _ Q0) rfl) hc.z) <| DO tab1 5 (fun f' L' w' hc=> zad (v := Pp _ _) (hc.old rfl rfl rfl) hc.z) <| DO tab1 6 (fun f' L' w' hc=> zaK (hc.d 4 rfl rfl rfl rfl) hc.z) <| DO tab1 7 (fun f' L' w' hc=> zaa ze5 (hc.d 5 rfl rfl rfl rfl) hc.z) <| DO tab1 8 (fun f' L' w' hc=> zae (v := .slice _ _ _) zcB rfl (hc.d 6 rfl rfl rfl rfl) (hc.st.cellL (List.mem_append_right _ Q0) rfl) hc.z) <| DO tab1 9 (fun _ _ _ hc => zaQ (rest := []) zcB (hc.d 7 rfl rfl rfl rfl) hc.z) <| RunD.fin zaw tab1 hst rfl (fun f2 w R5 hs3 hd4 hr6 hst => ?_)
 obtain ⟨h3_, r0⟩ := hd4 0 3 rfl rfl
 obtain ⟨h4_, r1⟩ := hd4 1 4 rfl rfl
 obtain ⟨h5_, r2⟩ := hd4 2 5 rfl rfl
 obtain ⟨h6_, r3⟩ := hd4 3 6 rfl rfl
 obtain ⟨h7_, r4⟩ := hd4 4 7 rfl rfl
 obtain ⟨h8_, r5⟩ := hd4 5 8 rfl rfl
 obtain ⟨h9_, r6⟩ := hd4 6 9 rfl rfl
 obtain ⟨h10_, r7⟩ := hd4 7 10 rfl rfl
 obtain ⟨h11_, r8⟩ := hd4 8 11 rfl rfl
 simp only [rg9, Fc, Fn, Mc, Mn, r0, r1, r2, r3, r4, r5, r6, r7, r8, Na, An, Ca] at hst
 refine zaD (sl := [(6, .int .i64 _), (11, .int .i64 _)]) ⟨h6_, h11_, trivial⟩ ?_
 clear hs3 hd4 hr6 tab1
 refine CN <| zaS rfl rfl <| AB rfl <| NL <| zah Tryz.func73 rfl (TP (v := .bool _) rfl) ?_
 exact ⟨Vb (by first | rfl | (rw [decide_eq_decide]; omega)), hst⟩
theorem zeN (bq : Nat) (s : Tx) (ao : Option Addr) (cp : Nat) (l : List TokL) (a : Nat) (bound e p : Int) (kd : Int) (w : World) (hB : (Res.row bq 130 [str s, .slice ao l.length cp, .int .i64 (a : Int), .int .u32 bound, .int .i64 e, .int .i64 p]).holds w) (hT : (Res.sl ao l.length cp 72 3 (l.flatMap zbW)).holds w) (hTA : Apart (Res.row bq 130 [str s, .slice ao l.length cp, .int .i64 (a : Int), .int .u32 bound, .int .i64 e, .int .i64 p]) (Res.sl ao l.length cp 72 3 (l.flatMap zbW))) (hl : s.length ≤ 1099511627776) (hll : l.length ≤ s.length) (hts : wsz l ≤ 7 * s.length) : Ret Tryz.prog 126 #[.pointer (some ⟨bq, 0, none⟩), .int .u8 kd] w (fun v w' => (l.length ≤ a ∧ v = .tuple #[.agg #[.int .u8 0, str [], .int .i64 0], .bool false] ∧ St w (Res.row bq 130 [str s, .slice ao l.length cp, .int .i64 (a : Int), .int .u32 bound, .int .i64 e, .int .i64 p]).foot [Res.row bq 130 [str s, .slice ao l.length cp, .int .i64 (a : Int), .int .u32 bound, .int .i64 72, .int .i64 (s.length)]] [] w') ∨ (a < l.length ∧ (l.getD a zaR).kind ≠ kd ∧ v = .tuple #[.agg #[.int .u8 0, str [], .int .i64 0], .bool false] ∧ St w (Res.row bq 130 [str s, .slice ao l.length cp, .int .i64 (a : Int), .int .u32 bound, .int .i64 e, .int .i64 p]).foot [Res.row bq 130 [str s, .slice ao l.length cp, .int .i64 (a : Int), .int .u32 bound, .int .i64 70, .int .i64 ((l.getD a zaR).at_)]] [] w') ∨ (a < l.length ∧ (l.getD a zaR).kind = kd ∧ v = .tuple #[.agg #[.int .u8 (l.getD a zaR).kind, str (l.getD a zaR).text, .int .i64 (l.getD a zaR).at_], .bool true] ∧ St w (Res.row bq 130 [str s, .slice ao l.length cp, .int .i64 (a : Int), .int .u32 bound, .int .i64 e, .int .i64 p]).foot [Res.row bq 130 [str s, .slice ao l.length cp, .int .i64 (a + 1 : Int), .int .u32 bound, .int .i64 e, .int .i64 p]] [] w')) := by
 refine zav (args := [.pointer (some ⟨bq, 0, none⟩), .int .u8 kd]) Tryz.func126 rfl rfl rfl ?_
 have hst : St w (Res.row bq 130 [str s, .slice ao l.length cp, .int .i64 (a : Int), .int .u32 bound, .int .i64 e, .int .i64 p]).foot [Res.row bq 130 [str s, .slice ao l.length cp, .int .i64 (a : Int), .int .u32 bound, .int .i64 e, .int .i64 p]] [Res.sl ao l.length cp 72 3 (l.flatMap zbW)] w := St.enter1 hB (by simp only [List.forall_mem_cons]; exact ⟨hT, fun _ h => absurd h List.not_mem_nil⟩) (by simp only [List.forall_mem_cons]; exact ⟨hTA, fun _ h => absurd h List.not_mem_nil⟩)
 have hidx : (l.getD ((a : Int).toNat) zaR).kind = (l.getD a zaR).kind := rfl
 refine SR <| CN <| Op1.alloc hst zbd fun w b4 hst => AB rfl <| NL <| SQ <| zao <| SR <| MP rfl ?_
 replace hst := hst.pick (.cons .u1 (.cons .u0 .nil))
 refine CN (Op1.call1 (v1 := Pp _ _) zuf rfl rfl ((zgC _ _ _ _ _ a _ _ _ _ (hst.hL _ Q0)).mono fun v w hp => ?_))
 obtain ⟨rfl, hp⟩ := hp
 replace hst := hst.call1 hp
 clear hp
 refine CN <| zin rfl <| AB rfl <| NL <| zab rfl (fun g1 => ?_) (fun g1 => ?_)
 ·refine SR <| CN (zag zbd zda .nil ?_)
  refine MP rfl <| MP rfl <| CN <| zaK rfl <| CN <| zaa zmA rfl <| CN <| zae (v := str _) ty9 rfl rfl (hst.cellL Q0 rfl) <| CN <| zaL (rest := []) ty9 rfl <| CN (zbD (v1 := Pp _ _) (v2 := .int .i64 _) (v3 := .int .i64 _) zec rfl rfl rfl rfl ((zbY _ _ _ _ _ a _ e p _ _ _ (hst.hL _ Q0)).mono fun v w hp => ?_))
  obtain ⟨rfl, hp⟩ := hp
  replace hst := hst.call1 hp
  clear hp
  refine CN (SO (v := zbO _ _ _) hst zbd rfl rfl .u1 fun w hst => ?_)
  refine AB rfl <| NL <| zai Tryz.func126 rfl (zal (vs := zeS _ _ _) rfl zbd rfl rfl (zac (n := 3) (hst.objL Q1) _ rfl)) (TP (v := .bool _) rfl) ?_
  replace hst := hst.pick (.cons .u0 .nil)
  exact .inl ⟨by omega, rfl, hst.noD⟩
 refine SQ ?_
 obtain ⟨bs2, rfl⟩ := Res.sl_some (hst.hD _ Q0) Om
 refine RunD.start [] hst (bs := [0, 1, 3, 7, 0, 16, 48, 112, 255, 511, 1023, 0, 4095, 8191]) (ds := [some 19, some 20, some 21, some 22, some 23, some 24, some 25, some 26, some 27, some 28, some 29, some 30, some 31, some 18]) ⟨Kr, Kr, Kr⟩ (fun tab3 => ?_)
 refine DO tab3 1 (fun f' L' w' hc=> zad (v := Pp _ _) (hc.old rfl rfl rfl) hc.z) <| DO tab3 2 (fun f' L' w' hc=> zaK (hc.d 0 rfl rfl rfl rfl) hc.z) <| DO tab3 3 (fun f' L' w' hc=> zaa ze5 (hc.d 1 rfl rfl rfl rfl) hc.z) <| DO tab3 4 (fun f' L' w' hc=> zae (v := .slice _ _ _) zcB rfl (hc.d 2 rfl rfl rfl rfl) (hc.st.cellL (List.mem_append_right _ Q0) rfl) hc.z) <| DO tab3 5 (fun f' L' w' hc=> zad (v := Pp _ _) (hc.old rfl rfl rfl) hc.z) <| DO tab3 6 (fun f' L' w' hc=> zaK (hc.d 4 rfl rfl rfl rfl) hc.z) <| DO tab3 7 (fun f' L' w' hc=> zaa zdw (hc.d 5 rfl rfl rfl rfl) hc.z) <| DO tab3 8 (fun f' L' w' hc=> zae (v := .int .i64 _) ty3 rfl (hc.d 6 rfl rfl rfl rfl) (hc.st.cellL (List.mem_append_right _ Q0) rfl) hc.z) <| DO tab3 9 (fun f' L' w' hc=> za5 zcB zbd (hc.d 3 rfl rfl rfl rfl) (hc.d 7 rfl rfl rfl rfl) Om Om hc.z) <| DO tab3 10 (fun f' L' w' hc=> zaa zfc (hc.d 8 rfl rfl rfl rfl) hc.z) <| DO tab3 11 (fun f' L' w' hc=> zae (v := .int .u8 _) ty5 rfl (hc.d 9 rfl rfl rfl rfl) (Res.sl_cell (hc.st.hD _ Q0) (za3 (g := zbW) (d := zaR) zbk rfl Om)) hc.z) <| DO tab3 12 (fun _ _ _ hc => zad (v := .int .u8 _) (hc.old rfl rfl rfl) hc.z) <| RunD.fin zaw tab3 hst rfl (fun f4 w R7 hs5 hd6 hr8 hst => ?_)
 obtain ⟨h19_, r0⟩ := hd6 0 19 rfl rfl
 obtain ⟨h20_, r1⟩ := hd6 1 20 rfl rfl
 obtain ⟨h21_, r2⟩ := hd6 2 21 rfl rfl
 obtain ⟨h22_, r3⟩ := hd6 3 22 rfl rfl
 obtain ⟨h23_, r4⟩ := hd6 4 23 rfl rfl
 obtain ⟨h24_, r5⟩ := hd6 5 24 rfl rfl
 obtain ⟨h25_, r6⟩ := hd6 6 25 rfl rfl
 obtain ⟨h26_, r7⟩ := hd6 7 26 rfl rfl
 obtain ⟨h27_, r8⟩ := hd6 8 27 rfl rfl
 obtain ⟨h28_, r9⟩ := hd6 9 28 rfl rfl
 obtain ⟨h29_, r10⟩ := hd6 10 29 rfl rfl
 obtain ⟨h30_, r11⟩ := hd6 11 30 rfl rfl
 simp only [rg12, Fc, Fn, Mc, Mn, r0, r1, r2, r3, r4, r5, r6, r7, r8, r9, r10, r11, Na, An, Ca] at hst
 refine zaD (sl := [(0, Pp _ _), (4, Pp _ _), (29, .int .u8 _), (30, .int .u8 _)]) ⟨(hs5 0 rfl).trans rfl, (hs5 4 rfl).trans rfl, h29_, h30_, trivial⟩ ?_
 clear hs5 hd6 hr8 tab3
 refine CN <| zaW rfl rfl <| AB rfl <| NL <| zaj [(0, Pp _ _), (4, Pp _ _), (18, .bool _)] E3 fun f => zab rfl (fun g9 => ?_) (fun g9 => ?_)
 ·refine SQ ?_
  apply RunD.start [(13, Res.row bq 130 _, Res.emp)] hst (bs := [0, 0, 0, 4, 12, 28, 0, 64, 192, 448, 1020, 2044, 4092, 8190, 16383, 32767]) (ds := [some 32, some 33, some 34, some 35, some 36, some 37, some 38, some 39, some 40, some 41, some 42, some 43, some 44, some 45, none, some 5]) (htab := ⟨Kr, Kr, Kr⟩)
  intro tab10
  refine DO tab10 1 (fun _ _ _ hc => zag zbd zda .nil hc.z) ?_
  refine DO tab10 2 (fun f' L' w' hc=> zad (v := Pp _ _) (hc.old rfl rfl rfl) hc.z) <| DO tab10 3 (fun f' L' w' hc=> zad (v := Pp _ _) (hc.old rfl rfl rfl) hc.z) <| DO tab10 4 (fun f' L' w' hc=> zaK (hc.d 2 rfl rfl rfl rfl) hc.z) <| DO tab10 5 (fun f' L' w' hc=> zaa ze5 (hc.d 3 rfl rfl rfl rfl) hc.z) <| zfY (det _) tab10 6 (fun f' L' w' hc hlate => zae (v := .slice _ _ _) zcB rfl (hc.d 4 rfl rfl rfl rfl) (hc.st.cellL (List.mem_append_left _ (hlate _ _ _ Q0 rfl)) rfl) hc.z) <| DO tab10 7 (fun f' L' w' hc=> zad (v := Pp _ _) (hc.old rfl rfl rfl) hc.z) <| DO tab10 8 (fun f' L' w' hc=> zaK (hc.d 6 rfl rfl rfl rfl) hc.z) <| DO tab10 9 (fun f' L' w' hc=> zaa zdw (hc.d 7 rfl rfl rfl rfl) hc.z) <| zfY (det _) tab10 10 (fun f' L' w' hc hlate => zae (v := .int .i64 _) ty3 rfl (hc.d 8 rfl rfl rfl rfl) (hc.st.cellL (List.mem_append_left _ (hlate _ _ _ Q0 rfl)) rfl) hc.z) <| DO tab10 11 (fun f' L' w' hc=> za5 zcB zbd (hc.d 5 rfl rfl rfl rfl) (hc.d 9 rfl rfl rfl rfl) Om Om hc.z) <| DO tab10 12 (fun f' L' w' hc=> zaa zb4 (hc.d 10 rfl rfl rfl rfl) hc.z) <| DO tab10 13 (fun f' L' w' hc=> zae (v := .int .i64 _) ty3 rfl (hc.d 11 rfl rfl rfl rfl) (Res.sl_cell (hc.st.hD _ Q0) (za3 (g := zbW) (d := zaR) zbk rfl Om)) hc.z) <| zd9 (fun g v rs => v = .bool false ∧ rs = [Res.row bq 130 [str s, .slice (some ⟨bs2, 0, none⟩) l.length cp, .int .i64 (((a : Nat) : Int) : Int), .int .u32 bound, .int .i64 70, .int .i64 ((l.getD a zaR).at_)]]) tab10 14 Q0 (fun f' L' L'' w' hc ⟨X, hrem, hX⟩ => zbD (v1 := Pp _ _) (v2 := .int .i64 _) (v3 := .int .i64 _) zec rfl (hc.d 1 rfl rfl rfl rfl) rfl (hc.d 12 rfl rfl rfl rfl) ((zbY bq s _ cp l (a) bound e p 70 ((l.getD a zaR).at_) _ (hc.st.hL _ hrem.mem2)).mono fun v w hp => ⟨[_], fun g hg => ⟨hp.1, rfl⟩, hX _ _ (St.callRem hc.st hrem hp.2)⟩)) <| RunD.fin zaw tab10 hst rfl (fun f11 w R14 hs12 hd13 hr15 hst => ?_)
  obtain ⟨h32_, r0⟩ := hd13 0 32 rfl rfl
  obtain ⟨h33_, r1⟩ := hd13 1 33 rfl rfl
  obtain ⟨h34_, r2⟩ := hd13 2 34 rfl rfl
  obtain ⟨h35_, r3⟩ := hd13 3 35 rfl rfl
  obtain ⟨h36_, r4⟩ := hd13 4 36 rfl rfl
  obtain ⟨h37_, r5⟩ := hd13 5 37 rfl rfl
  obtain ⟨h38_, r6⟩ := hd13 6 38 rfl rfl
  obtain ⟨h39_, r7⟩ := hd13 7 39 rfl rfl
  obtain ⟨h40_, r8⟩ := hd13 8 40 rfl rfl
  obtain ⟨h41_, r9⟩ := hd13 9 41 rfl rfl
  obtain ⟨h42_, r10⟩ := hd13 10 42 rfl rfl
  obtain ⟨h43_, r11⟩ := hd13 11 43 rfl rfl
  obtain ⟨h44_, r12⟩ := hd13 12 44 rfl rfl
  obtain ⟨h45_, r13⟩ := hd13 13 45 rfl rfl
  simp only [rg14, Fc, Fn, Mc, Mn, r0, r1, r2, r3, r4, r5, r6, r7, r8, r9, r10, r11, r12, r13, Na, An, Ca] at hst
  refine zaD (sl := [(4, Pp _ _), (32, zbO _ _ _), (45, .bool _)]) ⟨(hs12 4 rfl).trans rfl, h32_, h45_, trivial⟩ ?_
  clear hs12 hd13 hr15 tab10
  refine CN (SO (v := zbO _ _ _) hst zbd rfl rfl .u2 fun w hst => ?_)
  refine AB rfl <| NL <| zai Tryz.func126 rfl (zal (vs := zeS _ _ _) rfl zbd rfl rfl (zac (n := 3) (hst.objL Q2) _ rfl)) (TP (v := .bool _) rfl) ?_
  replace hst := hst.pick (.cons .u0 .nil)
  exact .inr (.inl ⟨by omega, by omega, rfl, hst.noD⟩)
 refine zaf <| zam <| SR <| MP rfl <| CN <| zaK rfl <| CN <| zaa zdw rfl <| CN <| zae (v := .int .i64 _) ty3 rfl rfl (hst.cellL Q0 rfl) <| CN <| zas rfl rfl rfl zbe <| CN <| zaK rfl <| CN <| zaa zdw rfl <| CN (SO (v := .int .i64 _) hst ty3 rfl rfl .u0 fun w hst => ?_)
 refine NL <| SQ <| RunD.start [] hst (bs := [0, 1, 3, 7, 0, 16, 48, 112, 240, 511, 1023, 2047, 4095]) (ds := [some 53, some 54, some 55, some 56, some 57, some 58, some 59, some 60, some 61, some 62, some 63, none, some 5]) ⟨Kr, Kr, Kr⟩ (fun tab16 => ?_)
 refine DO tab16 1 (fun f' L' w' hc=> zad (v := Pp _ _) (hc.old rfl rfl rfl) hc.z) <| DO tab16 2 (fun f' L' w' hc=> zaK (hc.d 0 rfl rfl rfl rfl) hc.z) <| DO tab16 3 (fun f' L' w' hc=> zaa ze5 (hc.d 1 rfl rfl rfl rfl) hc.z) <| DO tab16 4 (fun f' L' w' hc=> zae (v := .slice _ _ _) zcB rfl (hc.d 2 rfl rfl rfl rfl) (hc.st.cellL (List.mem_append_right _ Q0) rfl) hc.z) <| DO tab16 5 (fun f' L' w' hc=> zad (v := Pp _ _) (hc.old rfl rfl rfl) hc.z) <| DO tab16 6 (fun f' L' w' hc=> zaK (hc.d 4 rfl rfl rfl rfl) hc.z) <| DO tab16 7 (fun f' L' w' hc=> zaa zdw (hc.d 5 rfl rfl rfl rfl) hc.z) <| DO tab16 8 (fun f' L' w' hc=> zae (v := .int .i64 _) ty3 rfl (hc.d 6 rfl rfl rfl rfl) (hc.st.cellL (List.mem_append_right _ Q0) rfl) hc.z) <| DO tab16 9 (fun _ _ _ hc => zbx (hc.d 7 rfl rfl rfl rfl) rfl rfl zbe hc.z) <| RunD.fin zaw tab16 hst rfl (fun f17 w R20 hs18 hd19 hr21 hst => ?_)
 obtain ⟨h53_, r0⟩ := hd19 0 53 rfl rfl
 obtain ⟨h54_, r1⟩ := hd19 1 54 rfl rfl
 obtain ⟨h55_, r2⟩ := hd19 2 55 rfl rfl
 obtain ⟨h56_, r3⟩ := hd19 3 56 rfl rfl
 obtain ⟨h57_, r4⟩ := hd19 4 57 rfl rfl
 obtain ⟨h58_, r5⟩ := hd19 5 58 rfl rfl
 obtain ⟨h59_, r6⟩ := hd19 6 59 rfl rfl
 obtain ⟨h60_, r7⟩ := hd19 7 60 rfl rfl
 obtain ⟨h61_, r8⟩ := hd19 8 61 rfl rfl
 simp only [rg9, Fc, Fn, Mc, Mn, r0, r1, r2, r3, r4, r5, r6, r7, r8, Na, An, Ca] at hst
 refine zaD (sl := [(4, Pp _ _), (56, .slice _ _ _), (61, .int .i64 _)]) ⟨(hs18 4 rfl).trans rfl, h56_, h61_, trivial⟩ ?_
 clear hs18 hd19 hr21 tab16
 refine CN <| za5 zcB zbd rfl rfl Om Om <| CN <| zar (vs := zeS _ _ _) zbd rfl rfl rfl (Res.sl_cells (k := 3) (hst.hD _ Q0) _ (zbG (g := zbW) (d := zaR) zbk _ _ Om)) <| CN (SO (v := zbO _ _ _) hst zbd rfl rfl .u1 fun w hst => ?_)
 refine AB rfl <| NL <| zai Tryz.func126 rfl (zal (vs := zeS _ _ _) rfl zbd rfl rfl (zac (n := 3) (hst.objL Q1) _ rfl)) (TP (v := .bool _) rfl) ?_
 replace hst := hst.pick (.cons .u0 .nil)
 rw [show ((a : Int) + 1 - 1).toNat = a by omega]
 exact .inr (.inr ⟨by omega, by omega, rfl, hst.noD⟩)
end Go.SK
namespace Go.SK
open Go Go.Proofs
theorem zko : zaN Tryz.prog 126 := ⟨Tryz.f126, _, Tryz.func126, Kr, rfl⟩
end Go.SK
namespace Go.SK
open Go Go.Proofs
open Go.RowKit
theorem zf4 (bq : Nat) (s : Tx) (ao : Option Addr) (cp : Nat) (l : List TokL) (a : Nat) (bound e p : Int) (w : World) (hB : (Res.row bq 130 [str s, .slice ao l.length cp, .int .i64 (a : Int), .int .u32 bound, .int .i64 e, .int .i64 p]).holds w) (hT : (Res.sl ao l.length cp 72 3 (l.flatMap zbW)).holds w) (hTA : Apart (Res.row bq 130 [str s, .slice ao l.length cp, .int .i64 (a : Int), .int .u32 bound, .int .i64 e, .int .i64 p]) (Res.sl ao l.length cp 72 3 (l.flatMap zbW))) (hl : s.length ≤ 1099511627776) (hll : l.length ≤ s.length) (hts : wsz l ≤ 7 * s.length) (hG : LxG.holds w) (hGA : Apart (Res.row bq 130 [str s, .slice ao l.length cp, .int .i64 (a : Int), .int .u32 bound, .int .i64 e, .int .i64 p]) LxG) : Ret Tryz.prog 149 #[.pointer (some ⟨bq, 0, none⟩)] w (fun v w' => (l.length ≤ a ∧ v = .tuple #[.int .u32 0, .bool false] ∧ St w (Res.row bq 130 [str s, .slice ao l.length cp, .int .i64 (a : Int), .int .u32 bound, .int .i64 e, .int .i64 p]).foot [Res.row bq 130 [str s, .slice ao l.length cp, .int .i64 (a : Int), .int .u32 bound, .int .i64 72, .int .i64 (s.length)]] [] w') ∨ (a < l.length ∧ (l.getD a zaR).kind ≠ 3 ∧ v = .tuple #[.int .u32 0, .bool false] ∧ St w (Res.row bq 130 [str s, .slice ao l.length cp, .int .i64 (a : Int), .int .u32 bound, .int .i64 e, .int .i64 p]).foot [Res.row bq 130 [str s, .slice ao l.length cp, .int .i64 (a : Int), .int .u32 bound, .int .i64 70, .int .i64 ((l.getD a zaR).at_)]] [] w') ∨ (a < l.length ∧ (l.getD a zaR).kind = 3 ∧ (zba (l.getD a zaR).text).2 ≠ 0 ∧ v = .tuple #[.int .u32 0, .bool false] ∧ St w (Res.row bq 130 [str s, .slice ao l.length cp, .int .i64 (a : Int), .int .u32 bound, .int .i64 e, .int .i64 p]).foot [Res.row bq 130 [str s, .slice ao l.length cp, .int .i64 (a + 1 : Int), .int .u32 bound, .int .i64 ((zba (l.getD a zaR).text).2), .int .i64 ((l.getD a zaR).at_)]] [] w') ∨ (a < l.length ∧ (l.getD a zaR).kind = 3 ∧ (zba (l.getD a zaR).text).2 = 0 ∧ v = .tuple #[.int .u32 (zba (l.getD a zaR).text).1, .bool true] ∧ St w (Res.row bq 130 [str s, .slice ao l.length cp, .int .i64 (a : Int), .int .u32 bound, .int .i64 e, .int .i64 p]).foot [Res.row bq 130 [str s, .slice ao l.length cp, .int .i64 (a + 1 : Int), .int .u32 bound, .int .i64 e, .int .i64 p]] [] w')) := by
 refine zav (args := [.pointer (some ⟨bq, 0, none⟩)]) Tryz.func149 rfl rfl rfl ?_
 have hst : St w (Res.row bq 130 [str s, .slice ao l.length cp, .int .i64 (a : Int), .int .u32 bound, .int .i64 e, .int .i64 p]).foot [Res.row bq 130 [str s, .slice ao l.length cp, .int .i64 (a : Int), .int .u32 bound, .int .i64 e, .int .i64 p]] [Res.sl ao l.length cp 72 3 (l.flatMap zbW), LxG] w := St.enter1 hB (by simp only [List.forall_mem_cons]; exact ⟨hT, hG, fun _ h => absurd h List.not_mem_nil⟩) (by simp only [List.forall_mem_cons]; exact ⟨hTA, hGA, fun _ h => absurd h List.not_mem_nil⟩)
 refine SR <| AU rfl <| AB rfl <| NSR <| MP rfl <| CN (zaz (v1 := Pp _ _) (v2 := .int .u8 _) zko rfl rfl rfl ((zeN _ _ _ _ l a _ _ _ 3 _ (hst.hL _ Q0) (hst.hD _ Q0) (hst.sepD _ Q0 _ Q0) hl hll hts).mono fun v w hp => ?_))
 rcases hp with ⟨hk10, rfl, hp⟩ | ⟨hk10, hd10, rfl, hp⟩ | ⟨hk10, hd10, rfl, hp⟩
 ·replace hst := hst.call1 hp
  clear hp
  refine CN <| zad (v := .tuple #[zbO _ _ _, .bool _]) rfl <| CN <| Ex (zbO _ _ _) rfl rfl <| CN <| Ex (.bool _) rfl rfl <| CN <| Op1.alloc hst zbd fun w b4 hst => CN (SO (v := zbO _ _ _) hst zbd rfl rfl .u0 fun w hst => ?_)
  refine AB rfl <| NL <| SQ <| SR <| MB rfl <| CN <| zaZ rfl <| NL <| zax (Vb (congrArg not (rfl : false = _))) <| SR <| AU rfl <| AB rfl <| NL <| zai Tryz.func149 rfl (TP (v := .int .u32 _) rfl) (TP (v := .bool _) rfl) ?_
  replace hst := hst.pick (.cons .u1 .nil)
  exact .inl ⟨hk10, rfl, hst.noD⟩
 ·replace hst := hst.call1 hp
  clear hp
  refine CN <| zad (v := .tuple #[zbO _ _ _, .bool _]) rfl <| CN <| Ex (zbO _ _ _) rfl rfl <| CN <| Ex (.bool _) rfl rfl <| CN <| Op1.alloc hst zbd fun w b4 hst => CN (SO (v := zbO _ _ _) hst zbd rfl rfl .u0 fun w hst => ?_)
  refine AB rfl <| NL <| SQ <| SR <| MB rfl <| CN <| zaZ rfl <| NL <| zax (Vb (congrArg not (rfl : false = _))) <| SR <| AU rfl <| AB rfl <| NL <| zai Tryz.func149 rfl (TP (v := .int .u32 _) rfl) (TP (v := .bool _) rfl) ?_
  replace hst := hst.pick (.cons .u1 .nil)
  exact .inr (.inl ⟨hk10, hd10, rfl, hst.noD⟩)
 ·replace hst := hst.call1 hp
  clear hp
  refine CN <| zad (v := .tuple #[zbO _ _ _, .bool _]) rfl <| CN <| Ex (zbO _ _ _) rfl rfl <| CN <| Ex (.bool _) rfl rfl <| CN <| Op1.alloc hst zbd fun w b4 hst => CN (SO (v := zbO _ _ _) hst zbd rfl rfl .u0 fun w hst => ?_)
  refine AB rfl <| NL <| SQ <| SR <| MB rfl <| CN <| zaZ rfl <| NL <| zat (Vb (congrArg not (rfl : true = _))) <| zaf <| SR <| CN <| zaa zbl rfl <| CN <| zae (v := str _) ty9 rfl rfl (hst.cellL Q0 rfl) <| CN <| Op1.call1 (v1 := str _) zpJ rfl rfl <| Ret.det (zdn (l.getD a zaR).text _ (hst.hD _ Q1) (by have := zge (l := l) (i := a) Om; omega)) hst fun w hst => ?_
  refine CN <| zad (v := .tuple #[.int .u32 _, .int .i64 _]) rfl <| CN <| Ex (.int .u32 _) rfl rfl <| CN <| Ex (.int .i64 _) rfl rfl <| AU rfl <| AI rfl <| NL <| zaj [(0, Pp _ _), (4, Pp _ _), (6, .int .u32 _), (7, .int .i64 _)] E4 fun f => SQ <| SR <| MI rfl <| CN <| zaW rfl rfl <| NL <| zab rfl (fun g1 => ?_) (fun g1 => ?_)
  ·refine SR <| MP rfl <| MI rfl <| CN <| zaa zb4 rfl <| CN (zae (v := .int .i64 _) ty3 rfl rfl (hst.cellL Q0 rfl) ?_)
   replace hst := hst.pick (.cons .u1 (.cons .u0 .nil))
   refine CN (zbD (v1 := Pp _ _) (v2 := .int .i64 _) (v3 := .int .i64 _) zec rfl rfl rfl rfl ((zbY _ _ _ _ _ _ _ e p _ _ _ (hst.hL _ Q0)).mono fun v w hp => ?_))
   obtain ⟨rfl, hp⟩ := hp
   replace hst := hst.call1 hp
   clear hp
   refine AU rfl <| AB rfl <| NL <| zai Tryz.func149 rfl (TP (v := .int .u32 _) rfl) (TP (v := .bool _) rfl) ?_
   replace hst := hst.pick (.cons .u0 .nil)
   exact .inr (.inr (.inl ⟨hk10, hd10, g1, rfl, hst.noD⟩))
  refine zaf <| SR <| MU rfl <| AU rfl <| AB rfl <| NL <| zai Tryz.func149 rfl (TP (v := .int .u32 _) rfl) (TP (v := .bool _) rfl) ?_
  replace hst := hst.pick (.cons .u1 .nil)
  exact .inr (.inr (.inr ⟨hk10, hd10, Nn g1, rfl, hst.noD⟩))
end Go.SK
namespace Go.SK
open Go Go.Proofs
theorem zcm : TyF Tryz.prog 81 (.struct (zbJ Tryz.prog 81)) 2 8 [.int .u32 0, .int .u32 0] := zbK Kr Kr
theorem zed : zdL Tryz.prog 81 [(0, 1), (1, 1)] := ⟨zbJ Tryz.prog 81, Kr, fun w => Kr⟩
theorem zq9 : zaN Tryz.prog 149 := ⟨Tryz.f149, _, Tryz.func149, Kr, rfl⟩
end Go.SK
namespace Go.SK
open Go Go.Proofs
open Go.RowKit
theorem zu5 (bq : Nat) (s : Tx) (ao : Option Addr) (cp : Nat) (l : List TokL) (bound e p : Int) (w : World) (hB : (Res.row bq 130 [str s, .slice ao l.length cp, .int .i64 ((0 : Nat) : Int), .int .u32 bound, .int .i64 e, .int .i64 p]).holds w) (hT : (Res.sl ao l.length cp 72 3 (l.flatMap zbW)).holds w) (hTA : Apart (Res.row bq 130 [str s, .slice ao l.length cp, .int .i64 ((0 : Nat) : Int), .int .u32 bound, .int .i64 e, .int .i64 p]) (Res.sl ao l.length cp 72 3 (l.flatMap zbW))) (hl : s.length ≤ 1099511627776) (hll : l.length ≤ s.length) (hts : wsz l ≤ 7 * s.length) (hG : LxG.holds w) (hGA : Apart (Res.row bq 130 [str s, .slice ao l.length cp, .int .i64 ((0 : Nat) : Int), .int .u32 bound, .int .i64 e, .int .i64 p]) LxG) : Ret Tryz.prog 93 #[.pointer (some ⟨bq, 0, none⟩)] w (fun v w' => (∃ q : Int × Int, zcK s.length l = ((0, 0), q) ∧ q.1 ≠ 0 ∧ v = .tuple #[.agg #[.int .u32 0, .int .u32 0], .bool false] ∧ ∃ a' : Int, St w (Res.row bq 130 [str s, .slice ao l.length cp, .int .i64 ((0 : Nat) : Int), .int .u32 bound, .int .i64 e, .int .i64 p]).foot [Res.row bq 130 [str s, .slice ao l.length cp, .int .i64 (a' : Int), .int .u32 bound, .int .i64 q.1, .int .i64 q.2]] [] w') ∨ (∃ gn bd : Int, zcK s.length l = ((gn, bd), (0, 0)) ∧ v = .tuple #[.agg #[.int .u32 gn, .int .u32 bd], .bool true] ∧ ∃ a' : Int, St w (Res.row bq 130 [str s, .slice ao l.length cp, .int .i64 ((0 : Nat) : Int), .int .u32 bound, .int .i64 e, .int .i64 p]).foot [Res.row bq 130 [str s, .slice ao l.length cp, .int .i64 (a' : Int), .int .u32 bound, .int .i64 e, .int .i64 p]] [] w')) := by
 refine zav (args := [.pointer (some ⟨bq, 0, none⟩)]) Tryz.func93 rfl rfl rfl ?_
 have hst : St w (Res.row bq 130 [str s, .slice ao l.length cp, .int .i64 ((0 : Nat) : Int), .int .u32 bound, .int .i64 e, .int .i64 p]).foot [Res.row bq 130 [str s, .slice ao l.length cp, .int .i64 ((0 : Nat) : Int), .int .u32 bound, .int .i64 e, .int .i64 p]] [Res.sl ao l.length cp 72 3 (l.flatMap zbW), LxG] w := St.enter1 hB (by simp only [List.forall_mem_cons]; exact ⟨hT, hG, fun _ h => absurd h List.not_mem_nil⟩) (by simp only [List.forall_mem_cons]; exact ⟨hTA, hGA, fun _ h => absurd h List.not_mem_nil⟩)
 have hnu := zh0 (l.getD 2 zaR).text
 refine SR <| CN <| Op1.alloc hst zcm fun w b2 hst => AB rfl <| NSR <| MP rfl ?_
 replace hst := hst.pick (.cons .u1 (.cons .u0 .nil))
 refine CN (zaz (v1 := Pp _ _) (v2 := .int .u8 _) zko rfl rfl rfl ((zeN _ _ _ _ l 0 _ _ _ 1 _ (hst.hL _ Q0) (hst.hD _ Q0) (hst.sepD _ Q0 _ Q0) hl hll hts).mono fun v w hp => ?_))
 rcases hp with ⟨hk11, rfl, hp⟩ | ⟨hk11, hd11, rfl, hp⟩ | ⟨hk11, hd11, rfl, hp⟩
 ·replace hst := hst.call1 hp
  clear hp
  refine CN <| zad (v := .tuple #[zbO _ _ _, .bool _]) rfl <| CN <| Ex (zbO _ _ _) rfl rfl <| CN <| Ex (.bool _) rfl rfl <| CN <| Op1.alloc hst zbd fun w b4 hst => CN (SO (v := zbO _ _ _) hst zbd rfl rfl .u0 fun w hst => ?_)
  refine AB rfl <| NL <| SQ <| SR <| MB rfl <| CN <| zaZ rfl <| NL <| zax (Vb (congrArg not (rfl : false = _))) <| SR <| CN (zag zcm zed .nil ?_)
  refine CN (SO (v := gUU _ _) hst zcm rfl rfl .u2 fun w hst => ?_)
  refine AB rfl <| NL <| zai Tryz.func93 rfl (zal (vs := lUU _ _) rfl zcm rfl rfl (zac (n := 2) (hst.objL Q2) _ rfl)) (TP (v := .bool _) rfl) ?_
  replace hst := hst.pick (.cons .u1 .nil)
  refine .inl ⟨(72, s.length), head0 Om, (show (72 : Int) ≠ 0 by decide), rfl, _, hst.noD⟩
 ·replace hst := hst.call1 hp
  clear hp
  refine CN <| zad (v := .tuple #[zbO _ _ _, .bool _]) rfl <| CN <| Ex (zbO _ _ _) rfl rfl <| CN <| Ex (.bool _) rfl rfl <| CN <| Op1.alloc hst zbd fun w b4 hst => CN (SO (v := zbO _ _ _) hst zbd rfl rfl .u0 fun w hst => ?_)
  refine AB rfl <| NL <| SQ <| SR <| MB rfl <| CN <| zaZ rfl <| NL <| zax (Vb (congrArg not (rfl : false = _))) <| SR <| CN (zag zcm zed .nil ?_)
  refine CN (SO (v := gUU _ _) hst zcm rfl rfl .u2 fun w hst => ?_)
  refine AB rfl <| NL <| zai Tryz.func93 rfl (zal (vs := lUU _ _) rfl zcm rfl rfl (zac (n := 2) (hst.objL Q2) _ rfl)) (TP (v := .bool _) rfl) ?_
  replace hst := hst.pick (.cons .u1 .nil)
  refine .inl ⟨(70, (l.getD 0 zaR).at_), zxS Om (.inl hd11), (show (70 : Int) ≠ 0 by decide), rfl, _, hst.noD⟩
 ·replace hst := hst.call1 hp
  clear hp
  refine CN <| zad (v := .tuple #[zbO _ _ _, .bool _]) rfl <| CN <| Ex (zbO _ _ _) rfl rfl <| CN <| Ex (.bool _) rfl rfl <| CN <| Op1.alloc hst zbd fun w b4 hst => CN (SO (v := zbO _ _ _) hst zbd rfl rfl .u0 fun w hst => ?_)
  refine AB rfl <| NL <| SQ <| SR <| MB rfl <| CN <| zaZ rfl <| NL <| zat (Vb (congrArg not (rfl : true = _))) <| zaf <| SQ <| SR <| CN <| zaa zbl rfl <| CN (zae (v := str _) ty9 rfl rfl (hst.cellL Q0 rfl) ?_)
  refine CN <| zcN rfl rfl <| NL <| zab rfl (fun g1 => ?_) (fun g1 => ?_)
  ·refine SR <| CN (zag zcm zed .nil ?_)
   refine MP rfl <| CN <| zaa zb4 rfl <| CN (zae (v := .int .i64 _) ty3 rfl rfl (hst.cellL Q0 rfl) ?_)
   replace hst := hst.pick (.cons .u1 (.cons .u0 (.cons .u0 .nil)))
   refine CN (zbD (v1 := Pp _ _) (v2 := .int .i64 _) (v3 := .int .i64 _) zec rfl rfl rfl rfl ((zbY _ _ _ _ _ _ _ e p _ _ _ (hst.hL _ Q0)).mono fun v w hp => ?_))
   obtain ⟨rfl, hp⟩ := hp
   replace hst := hst.call1 hp
   clear hp
   refine CN (SO (v := gUU _ _) hst zcm rfl rfl .u2 fun w hst => ?_)
   refine AB rfl <| NL <| zai Tryz.func93 rfl (zal (vs := lUU _ _) rfl zcm rfl rfl (zac (n := 2) (hst.objL Q2) _ rfl)) (TP (v := .bool _) rfl) ?_
   replace hst := hst.pick (.cons .u0 .nil)
   refine .inl ⟨(70, (l.getD 0 zaR).at_), zxS Om (.inr g1), (show (70 : Int) ≠ 0 by decide), rfl, _, hst.noD⟩
  refine zaf <| SR <| MP rfl ?_
  replace hst := hst.pick (.cons .u1 (.cons .u0 (.cons .u0 .nil)))
  refine CN (Op1.call1 (v1 := Pp _ _) zq9 rfl rfl ((zf4 _ _ _ _ l 1 _ _ _ _ (hst.hL _ Q0) (hst.hD _ Q0) (hst.sepD _ Q0 _ Q0) hl hll hts (hst.hD _ Q1) (hst.sepD _ Q0 _ Q1)).mono fun v w hp => ?_))
  rcases hp with ⟨hk27, rfl, hp⟩ | ⟨hk27, hd27, rfl, hp⟩ | ⟨hk27, hd27, he27, rfl, hp⟩ | ⟨hk27, hd27, he27, rfl, hp⟩
  ·replace hst := hst.call1 hp
   clear hp
   refine CN <| zad (v := .tuple #[.int .u32 _, .bool _]) rfl <| CN <| Ex (.int .u32 _) rfl rfl <| CN <| Ex (.bool _) rfl rfl <| AU rfl <| AB rfl <| NL <| zaj [(0, Pp _ _), (2, Pp _ _), (5, .bool _), (6, .int .u32 _)] E4 fun f => SQ <| SR <| MB rfl <| CN <| zaZ rfl <| NL <| zax (Vb (congrArg not (rfl : false = _))) <| SQ ?_
   refine RG <| CN (zag zcm zed .nil ?_)
   refine CN (SO (v := gUU _ _) hst zcm rfl rfl .u2 fun w hst => ?_)
   refine AB rfl <| NL <| zai Tryz.func93 rfl (zal (vs := lUU _ _) rfl zcm rfl rfl (zac (n := 2) (hst.objL Q2) _ rfl)) (TP (v := .bool _) rfl) ?_
   replace hst := hst.pick (.cons .u0 .nil)
   refine .inl ⟨(72, s.length), head2 hd11 (Nn g1) Om, (show (72 : Int) ≠ 0 by decide), rfl, _, hst.noD⟩
  ·replace hst := hst.call1 hp
   clear hp
   refine CN <| zad (v := .tuple #[.int .u32 _, .bool _]) rfl <| CN <| Ex (.int .u32 _) rfl rfl <| CN <| Ex (.bool _) rfl rfl <| AU rfl <| AB rfl <| NL <| zaj [(0, Pp _ _), (2, Pp _ _), (5, .bool _), (6, .int .u32 _)] E4 fun f => SQ <| SR <| MB rfl <| CN <| zaZ rfl <| NL <| zax (Vb (congrArg not (rfl : false = _))) <| SQ ?_
   refine RG <| CN (zag zcm zed .nil ?_)
   refine CN (SO (v := gUU _ _) hst zcm rfl rfl .u2 fun w hst => ?_)
   refine AB rfl <| NL <| zai Tryz.func93 rfl (zal (vs := lUU _ _) rfl zcm rfl rfl (zac (n := 2) (hst.objL Q2) _ rfl)) (TP (v := .bool _) rfl) ?_
   replace hst := hst.pick (.cons .u0 .nil)
   refine .inl ⟨(70, (l.getD 1 zaR).at_), (by rw [zkg hd11 (Nn g1) (by omega), if_pos hd27]), (show (70 : Int) ≠ 0 by decide), rfl, _, hst.noD⟩
  ·replace hst := hst.call1 hp
   clear hp
   refine CN <| zad (v := .tuple #[.int .u32 _, .bool _]) rfl <| CN <| Ex (.int .u32 _) rfl rfl <| CN <| Ex (.bool _) rfl rfl <| AU rfl <| AB rfl <| NL <| zaj [(0, Pp _ _), (2, Pp _ _), (5, .bool _), (6, .int .u32 _)] E4 fun f => SQ <| SR <| MB rfl <| CN <| zaZ rfl <| NL <| zax (Vb (congrArg not (rfl : false = _))) <| SQ ?_
   refine RG <| CN (zag zcm zed .nil ?_)
   refine CN (SO (v := gUU _ _) hst zcm rfl rfl .u2 fun w hst => ?_)
   refine AB rfl <| NL <| zai Tryz.func93 rfl (zal (vs := lUU _ _) rfl zcm rfl rfl (zac (n := 2) (hst.objL Q2) _ rfl)) (TP (v := .bool _) rfl) ?_
   replace hst := hst.pick (.cons .u0 .nil)
   refine .inl ⟨((zba (l.getD 1 zaR).text).2, (l.getD 1 zaR).at_), (by rw [zkg hd11 (Nn g1) (by omega), if_neg (fun q => q hd27), if_pos he27]), he27, rfl, _, hst.noD⟩
  ·replace hst := hst.call1 hp
   clear hp
   refine CN <| zad (v := .tuple #[.int .u32 _, .bool _]) rfl <| CN <| Ex (.int .u32 _) rfl rfl <| CN <| Ex (.bool _) rfl rfl <| AU rfl <| AB rfl <| NL <| zaj [(0, Pp _ _), (2, Pp _ _), (5, .bool _), (6, .int .u32 _)] E4 fun f => SQ <| SR <| MB rfl <| CN <| zaZ rfl <| NL <| zat (Vb (congrArg not (rfl : true = _))) <| zaf ?_
   refine SR <| MP rfl <| CN <| zaK rfl <| CN <| zaa zmA rfl <| CN <| zae (v := str _) ty9 rfl rfl (hst.cellL Q0 rfl) <| CN <| zaL (rest := []) ty9 rfl <| AI rfl <| NL <| SQ <| SR <| MP rfl <| CN (Op1.call1 (v1 := Pp _ _) zuf rfl rfl ((zgC _ _ _ _ _ 2 _ _ _ _ (hst.hL _ Q0)).mono fun v w hp => ?_))
   obtain ⟨rfl, hp⟩ := hp
   replace hst := hst.call1 hp
   clear hp
   refine NL <| zab rfl (fun g2 => ?_) (fun g2 => ?_)
   ·obtain ⟨bs3, rfl⟩ := Res.sl_some (hst.hD _ Q0) Om
    refine RunD.start [] hst (bs := [0, 1, 3, 7, 0, 16, 48, 112, 255, 511, 1023, 2047]) (ds := [some 40, some 41, some 42, some 43, some 44, some 45, some 46, some 47, some 48, some 49, some 50, some 7]) ⟨Kr, Kr, Kr⟩ (fun tab4 => ?_)
    refine DO tab4 1 (fun f' L' w' hc=> zad (v := Pp _ _) (hc.old rfl rfl rfl) hc.z) <| DO tab4 2 (fun f' L' w' hc=> zaK (hc.d 0 rfl rfl rfl rfl) hc.z) <| DO tab4 3 (fun f' L' w' hc=> zaa ze5 (hc.d 1 rfl rfl rfl rfl) hc.z) <| DO tab4 4 (fun f' L' w' hc=> zae (v := .slice _ _ _) zcB rfl (hc.d 2 rfl rfl rfl rfl) (hc.st.cellL (List.mem_append_right _ Q0) rfl) hc.z) <| DO tab4 5 (fun f' L' w' hc=> zad (v := Pp _ _) (hc.old rfl rfl rfl) hc.z) <| DO tab4 6 (fun f' L' w' hc=> zaK (hc.d 4 rfl rfl rfl rfl) hc.z) <| DO tab4 7 (fun f' L' w' hc=> zaa zdw (hc.d 5 rfl rfl rfl rfl) hc.z) <| DO tab4 8 (fun _ _ _ hc => zae (v := .int .i64 _) ty3 rfl (hc.d 6 rfl rfl rfl rfl) (hc.st.cellL (List.mem_append_right _ Q0) rfl) hc.z) <| RunD.fin zaw tab4 hst rfl (fun f5 w R8 hs6 hd7 hr9 hst => ?_)
    obtain ⟨h40_, r0⟩ := hd7 0 40 rfl rfl
    obtain ⟨h41_, r1⟩ := hd7 1 41 rfl rfl
    obtain ⟨h42_, r2⟩ := hd7 2 42 rfl rfl
    obtain ⟨h43_, r3⟩ := hd7 3 43 rfl rfl
    obtain ⟨h44_, r4⟩ := hd7 4 44 rfl rfl
    obtain ⟨h45_, r5⟩ := hd7 5 45 rfl rfl
    obtain ⟨h46_, r6⟩ := hd7 6 46 rfl rfl
    obtain ⟨h47_, r7⟩ := hd7 7 47 rfl rfl
    simp only [rg8, Fc, Fn, Mc, Mn, r0, r1, r2, r3, r4, r5, r6, r7, Na, An, Ca] at hst
    refine zaD (sl := [(0, Pp _ _), (2, Pp _ _), (6, .int .u32 _), (43, .slice _ _ _), (47, .int .i64 _)]) ⟨(hs6 0 rfl).trans rfl, (hs6 2 rfl).trans rfl, (hs6 6 rfl).trans rfl, h43_, h47_, trivial⟩ ?_
    clear hs6 hd7 hr9 tab4
    refine CN <| za5 zcB zbd rfl rfl Om Om <| CN <| zaa zb4 rfl <| CN <| zae (v := .int .i64 _) ty3 rfl rfl (Res.sl_cell (hst.hD _ Q0) (za3 (g := zbW) (d := zaR) zbk rfl Om)) <| AI rfl <| NL <| zaj [(0, Pp _ _), (2, Pp _ _), (6, .int .u32 _), (7, .int .i64 _)] E4 fun f => SR <| MP rfl <| CN (Op1.call1 (v1 := Pp _ _) zq9 rfl rfl ((zf4 _ _ _ _ l 2 _ _ _ _ (hst.hL _ Q0) (hst.hD _ Q0) (hst.sepD _ Q0 _ Q0) hl hll hts (hst.hD _ Q1) (hst.sepD _ Q0 _ Q1)).mono fun v w hp => ?_))
    rcases hp with ⟨hk53, rfl, hp⟩ | ⟨hk53, hd53, rfl, hp⟩ | ⟨hk53, hd53, he53, rfl, hp⟩ | ⟨hk53, hd53, he53, rfl, hp⟩
    ·exfalso; omega
    ·replace hst := hst.call1 hp
     clear hp
     refine CN <| zad (v := .tuple #[.int .u32 _, .bool _]) rfl <| CN <| Ex (.int .u32 _) rfl rfl <| CN <| Ex (.bool _) rfl rfl <| AU rfl <| AB rfl <| NL <| SQ <| zao <| SR <| MB rfl <| CN <| zaZ rfl <| AB rfl <| NL <| zax (Vb (congrArg not (rfl : false = _))) ?_
     refine SR <| CN (zag zcm zed .nil ?_)
     refine CN (SO (v := gUU _ _) hst zcm rfl rfl .u2 fun w hst => ?_)
     refine AB rfl <| NL <| zai Tryz.func93 rfl (zal (vs := lUU _ _) rfl zcm rfl rfl (zac (n := 2) (hst.objL Q2) _ rfl)) (TP (v := .bool _) rfl) ?_
     replace hst := hst.pick (.cons .u0 .nil)
     refine .inl ⟨(70, (l.getD 2 zaR).at_), (by rw [zkg hd11 (Nn g1) (by omega), if_neg (fun q => q hd27), if_neg (fun q => q he27), if_neg (by omega), if_pos hd53]), (show (70 : Int) ≠ 0 by decide), rfl, _, hst.noD⟩
    ·replace hst := hst.call1 hp
     clear hp
     refine CN <| zad (v := .tuple #[.int .u32 _, .bool _]) rfl <| CN <| Ex (.int .u32 _) rfl rfl <| CN <| Ex (.bool _) rfl rfl <| AU rfl <| AB rfl <| NL <| SQ <| zao <| SR <| MB rfl <| CN <| zaZ rfl <| AB rfl <| NL <| zax (Vb (congrArg not (rfl : false = _))) ?_
     refine SR <| CN (zag zcm zed .nil ?_)
     refine CN (SO (v := gUU _ _) hst zcm rfl rfl .u2 fun w hst => ?_)
     refine AB rfl <| NL <| zai Tryz.func93 rfl (zal (vs := lUU _ _) rfl zcm rfl rfl (zac (n := 2) (hst.objL Q2) _ rfl)) (TP (v := .bool _) rfl) ?_
     replace hst := hst.pick (.cons .u0 .nil)
     refine .inl ⟨((zba (l.getD 2 zaR).text).2, (l.getD 2 zaR).at_), (by rw [zkg hd11 (Nn g1) (by omega), if_neg (fun q => q hd27), if_neg (fun q => q he27), if_neg (by omega), if_neg (fun q => q hd53), if_pos he53]), he53, rfl, _, hst.noD⟩
    ·replace hst := hst.call1 hp
     clear hp
     refine CN <| zad (v := .tuple #[.int .u32 _, .bool _]) rfl <| CN <| Ex (.int .u32 _) rfl rfl <| CN <| Ex (.bool _) rfl rfl <| AU rfl <| AB rfl <| NL <| SQ <| zao <| SR <| MB rfl <| CN <| zaZ rfl <| AB rfl <| NL <| zat (Vb (congrArg not (rfl : true = _))) ?_
     refine SR <| MU rfl <| CN <| zak rfl rfl <| MB rfl <| zan (d := 63) rfl (fun g10 => ?_) (fun g10 => ?_)
     ·refine OM (t := 63) rfl (Vb (Dt g10)) rfl <| OM (t := 63) rfl (Vb (Dt g10)) rfl <| CN <| zap (u := .bool _) (Vb (Dt g10)) rfl <| AB rfl <| NL <| zax (Vb (rfl : true = _)) <| SR <| CN (zag zcm zed .nil ?_)
      refine MP rfl <| MI rfl <| CN (zbD (v1 := Pp _ _) (v2 := .int .i64 _) (v3 := .int .i64 _) zec rfl rfl rfl rfl ((zbY _ _ _ _ _ _ _ e p _ _ _ (hst.hL _ Q0)).mono fun v w hp => ?_))
      obtain ⟨rfl, hp⟩ := hp
      replace hst := hst.call1 hp
      clear hp
      refine CN (SO (v := gUU _ _) hst zcm rfl rfl .u2 fun w hst => ?_)
      refine AB rfl <| NL <| zai Tryz.func93 rfl (zal (vs := lUU _ _) rfl zcm rfl rfl (zac (n := 2) (hst.objL Q2) _ rfl)) (TP (v := .bool _) rfl) ?_
      replace hst := hst.pick (.cons .u0 .nil)
      refine .inl ⟨(24, (l.getD 2 zaR).at_), (by rw [zkg hd11 (Nn g1) (by omega), if_neg (fun q => q hd27), if_neg (fun q => q he27), if_neg (by omega), if_neg (fun q => q hd53), if_neg (fun q => q he53), if_pos (by omega)]), (show (24 : Int) ≠ 0 by decide), rfl, _, hst.noD⟩
     refine TK (t := 63) rfl (Vb (Df g10)) <| zad (v := .int .u32 _) rfl <| TK (t := 63) rfl (Vb (Df g10)) <| zbm rfl rfl <| CN <| zaq (u := .bool _) (Vb (Df g10)) rfl <| AB rfl <| NL <| zab rfl (fun g11 => ?_) (fun g11 => ?_)
     ·refine SR <| CN (zag zcm zed .nil ?_)
      refine MP rfl <| MI rfl <| CN (zbD (v1 := Pp _ _) (v2 := .int .i64 _) (v3 := .int .i64 _) zec rfl rfl rfl rfl ((zbY _ _ _ _ _ _ _ e p _ _ _ (hst.hL _ Q0)).mono fun v w hp => ?_))
      obtain ⟨rfl, hp⟩ := hp
      replace hst := hst.call1 hp
      clear hp
      refine CN (SO (v := gUU _ _) hst zcm rfl rfl .u2 fun w hst => ?_)
      refine AB rfl <| NL <| zai Tryz.func93 rfl (zal (vs := lUU _ _) rfl zcm rfl rfl (zac (n := 2) (hst.objL Q2) _ rfl)) (TP (v := .bool _) rfl) ?_
      replace hst := hst.pick (.cons .u0 .nil)
      refine .inl ⟨(24, (l.getD 2 zaR).at_), (by rw [zkg hd11 (Nn g1) (by omega), if_neg (fun q => q hd27), if_neg (fun q => q he27), if_neg (by omega), if_neg (fun q => q hd53), if_neg (fun q => q he53), if_pos (by omega)]), (show (24 : Int) ≠ 0 by decide), rfl, _, hst.noD⟩
     refine SR <| MP rfl <| CN (Op1.call1 (v1 := Pp _ _) zuf rfl rfl ((zgC _ _ _ _ _ 3 _ _ _ _ (hst.hL _ Q0)).mono fun v w hp => ?_))
     obtain ⟨rfl, hp⟩ := hp
     replace hst := hst.call1 hp
     clear hp
     refine AB rfl <| NL <| zaj [(0, Pp _ _), (2, Pp _ _), (6, .int .u32 _), (8, .int .u32 _), (71, .bool _)] E5 fun f => zab rfl (fun g12 => ?_) (fun g12 => ?_)
     ·refine SQ ?_
      apply RunD.start [(13, Res.row bq 130 _, Res.emp)] hst (bs := [0, 0, 0, 4, 12, 28, 0, 64, 192, 448, 1020, 2044, 4092, 8190, 16383, 32767]) (ds := [some 74, some 75, some 76, some 77, some 78, some 79, some 80, some 81, some 82, some 83, some 84, some 85, some 86, some 87, none, some 3]) (htab := ⟨Kr, Kr, Kr⟩)
      intro tab13
      refine DO tab13 1 (fun _ _ _ hc => zag zcm zed .nil hc.z) ?_
      refine DO tab13 2 (fun f' L' w' hc=> zad (v := Pp _ _) (hc.old rfl rfl rfl) hc.z) <| DO tab13 3 (fun f' L' w' hc=> zad (v := Pp _ _) (hc.old rfl rfl rfl) hc.z) <| DO tab13 4 (fun f' L' w' hc=> zaK (hc.d 2 rfl rfl rfl rfl) hc.z) <| DO tab13 5 (fun f' L' w' hc=> zaa ze5 (hc.d 3 rfl rfl rfl rfl) hc.z) <| zfY (det _) tab13 6 (fun f' L' w' hc hlate => zae (v := .slice _ _ _) zcB rfl (hc.d 4 rfl rfl rfl rfl) (hc.st.cellL (List.mem_append_left _ (hlate _ _ _ Q0 rfl)) rfl) hc.z) <| DO tab13 7 (fun f' L' w' hc=> zad (v := Pp _ _) (hc.old rfl rfl rfl) hc.z) <| DO tab13 8 (fun f' L' w' hc=> zaK (hc.d 6 rfl rfl rfl rfl) hc.z) <| DO tab13 9 (fun f' L' w' hc=> zaa zdw (hc.d 7 rfl rfl rfl rfl) hc.z) <| zfY (det _) tab13 10 (fun f' L' w' hc hlate => zae (v := .int .i64 _) ty3 rfl (hc.d 8 rfl rfl rfl rfl) (hc.st.cellL (List.mem_append_left _ (hlate _ _ _ Q0 rfl)) rfl) hc.z) <| DO tab13 11 (fun f' L' w' hc=> za5 zcB zbd (hc.d 5 rfl rfl rfl rfl) (hc.d 9 rfl rfl rfl rfl) Om Om hc.z) <| DO tab13 12 (fun f' L' w' hc=> zaa zb4 (hc.d 10 rfl rfl rfl rfl) hc.z) <| DO tab13 13 (fun f' L' w' hc=> zae (v := .int .i64 _) ty3 rfl (hc.d 11 rfl rfl rfl rfl) (Res.sl_cell (hc.st.hD _ Q0) (za3 (g := zbW) (d := zaR) zbk rfl Om)) hc.z) <| zd9 (fun g v rs => v = .bool false ∧ rs = [Res.row bq 130 [str s, .slice (some ⟨bs3, 0, none⟩) l.length cp, .int .i64 (((3 : Nat) : Int) : Int), .int .u32 bound, .int .i64 70, .int .i64 ((l.getD 3 zaR).at_)]]) tab13 14 Q0 (fun f' L' L'' w' hc ⟨X, hrem, hX⟩ => zbD (v1 := Pp _ _) (v2 := .int .i64 _) (v3 := .int .i64 _) zec rfl (hc.d 1 rfl rfl rfl rfl) rfl (hc.d 12 rfl rfl rfl rfl) ((zbY bq s _ cp l (3) bound e p 70 ((l.getD 3 zaR).at_) _ (hc.st.hL _ hrem.mem2)).mono fun v w hp => ⟨[_], fun g hg => ⟨hp.1, rfl⟩, hX _ _ (St.callRem hc.st hrem hp.2)⟩)) <| RunD.fin zaw tab13 hst rfl (fun f14 w R17 hs15 hd16 hr18 hst => ?_)
      obtain ⟨h74_, r0⟩ := hd16 0 74 rfl rfl
      obtain ⟨h75_, r1⟩ := hd16 1 75 rfl rfl
      obtain ⟨h76_, r2⟩ := hd16 2 76 rfl rfl
      obtain ⟨h77_, r3⟩ := hd16 3 77 rfl rfl
      obtain ⟨h78_, r4⟩ := hd16 4 78 rfl rfl
      obtain ⟨h79_, r5⟩ := hd16 5 79 rfl rfl
      obtain ⟨h80_, r6⟩ := hd16 6 80 rfl rfl
      obtain ⟨h81_, r7⟩ := hd16 7 81 rfl rfl
      obtain ⟨h82_, r8⟩ := hd16 8 82 rfl rfl
      obtain ⟨h83_, r9⟩ := hd16 9 83 rfl rfl
      obtain ⟨h84_, r10⟩ := hd16 10 84 rfl rfl
      obtain ⟨h85_, r11⟩ := hd16 11 85 rfl rfl
      obtain ⟨h86_, r12⟩ := hd16 12 86 rfl rfl
      obtain ⟨h87_, r13⟩ := hd16 13 87 rfl rfl
      simp only [rg14, Fc, Fn, Mc, Mn, r0, r1, r2, r3, r4, r5, r6, r7, r8, r9, r10, r11, r12, r13, Na, An, Ca] at hst
      refine zaD (sl := [(2, Pp _ _), (74, gUU _ _), (87, .bool _)]) ⟨(hs15 2 rfl).trans rfl, h74_, h87_, trivial⟩ ?_
      clear hs15 hd16 hr18 tab13
      refine CN (SO (v := gUU _ _) hst zcm rfl rfl .u3 fun w hst => ?_)
      refine AB rfl <| NL <| zai Tryz.func93 rfl (zal (vs := lUU _ _) rfl zcm rfl rfl (zac (n := 2) (hst.objL Q3) _ rfl)) (TP (v := .bool _) rfl) ?_
      replace hst := hst.pick (.cons .u0 .nil)
      refine .inl ⟨(70, (l.getD 3 zaR).at_), (by rw [zkg hd11 (Nn g1) (by omega), if_neg (fun q => q hd27), if_neg (fun q => q he27), if_neg (by omega), if_neg (fun q => q hd53), if_neg (fun q => q he53), if_neg (by omega), if_pos (by omega)]), (show (70 : Int) ≠ 0 by decide), rfl, _, hst.noD⟩
     refine zaf <| zam <| SR <| MU rfl <| MU rfl <| CN (zag zcm zed (.c (v := .int .u32 _) rfl (h := (.c (v := .int .u32 _) rfl (h := .nil)))) ?_)
     refine CN (SO (v := gUU _ _) hst zcm rfl rfl .u2 fun w hst => ?_)
     refine AB rfl <| NL <| zai Tryz.func93 rfl (zal (vs := lUU _ _) rfl zcm rfl rfl (zac (n := 2) (hst.objL Q2) _ rfl)) (TP (v := .bool _) rfl) ?_
     replace hst := hst.pick (.cons .u0 .nil)
     refine .inr ⟨_, _, (by rw [zkg hd11 (Nn g1) (by omega), if_neg (fun q => q hd27), if_neg (fun q => q he27), if_neg (by omega), if_neg (fun q => q hd53), if_neg (fun q => q he53), if_neg (by omega), if_neg (by omega)]), rfl, _, hst.noD⟩
   refine zaf <| SR <| MP rfl <| CN (Op1.call1 (v1 := Pp _ _) zq9 rfl rfl ((zf4 _ _ _ _ l 2 _ _ _ _ (hst.hL _ Q0) (hst.hD _ Q0) (hst.sepD _ Q0 _ Q0) hl hll hts (hst.hD _ Q1) (hst.sepD _ Q0 _ Q1)).mono fun v w hp => ?_))
   rcases hp with ⟨hk53, rfl, hp⟩ | ⟨hk53, hd53, rfl, hp⟩ | ⟨hk53, hd53, he53, rfl, hp⟩ | ⟨hk53, hd53, he53, rfl, hp⟩
   ·replace hst := hst.call1 hp
    clear hp
    refine CN <| zad (v := .tuple #[.int .u32 _, .bool _]) rfl <| CN <| Ex (.int .u32 _) rfl rfl <| CN <| Ex (.bool _) rfl rfl <| AU rfl <| AB rfl <| NL <| SQ <| zao <| SR <| MB rfl <| CN <| zaZ rfl <| AB rfl <| NL <| zaj [(0, Pp _ _), (2, Pp _ _), (6, .int .u32 _), (7, .int .i64 _), (8, .int .u32 _), (56, .bool _)] E6 (fun f => ?_)
    refine zax (Vb (congrArg not (rfl : false = _))) <| SR <| CN (zag zcm zed .nil ?_)
    refine CN (SO (v := gUU _ _) hst zcm rfl rfl .u2 fun w hst => ?_)
    refine AB rfl <| NL <| zai Tryz.func93 rfl (zal (vs := lUU _ _) rfl zcm rfl rfl (zac (n := 2) (hst.objL Q2) _ rfl)) (TP (v := .bool _) rfl) ?_
    replace hst := hst.pick (.cons .u0 .nil)
    refine .inl ⟨(72, s.length), (by rw [zkg hd11 (Nn g1) (by omega), if_neg (fun q => q hd27), if_neg (fun q => q he27), if_pos (by omega)]), (show (72 : Int) ≠ 0 by decide), rfl, _, hst.noD⟩
   ·exfalso; omega
   ·exfalso; omega
   ·exfalso; omega
end Go.SK
namespace Go.SK
open Go Go.Proofs
theorem ty130 : TyF Tryz.prog 130 (.struct (zbJ Tryz.prog 130)) 6 72 [str [], .slice none 0 0, .int .i64 0, .int .u32 0, .int .i64 0, .int .i64 0] := zbK Kr Kr
theorem stf130 : zdL Tryz.prog 130 [(0, 1), (1, 1), (2, 1), (3, 1), (4, 2)] := ⟨zbJ Tryz.prog 130, Kr, fun w => Kr⟩
theorem ent72 : zaN Tryz.prog 72 := ⟨Tryz.f72, _, Tryz.func72, Kr, rfl⟩
theorem ent93 : zaN Tryz.prog 93 := ⟨Tryz.f93, _, Tryz.func93, Kr, rfl⟩
end Go.SK
namespace Go.SK
open Go Go.Proofs
open Go.RowKit
theorem zoY (s : Tx) (bound : Int) (w : World) (hG : LxG.holds w) (hl : s.length ≤ 1099511627776) : Ret Tryz.prog 72 #[str s, .int .u32 bound] w (fun v w' => ∃ bq ao cp, v = .tuple #[.pointer (some ⟨bq, 0, none⟩), .agg #[.int .i64 (za7 s).2.1, .int .i64 (za7 s).2.2]] ∧ St w NoM [Res.row bq 130 [str s, .slice ao (za7 s).1.length cp, .int .i64 ((0 : Nat) : Int), .int .u32 bound, .int .i64 0, .int .i64 0], Res.sl ao (za7 s).1.length cp 72 3 ((za7 s).1.flatMap zbW)] [] w') := by
 refine zav (args := [str s, .int .u32 bound]) Tryz.func72 rfl rfl rfl ?_
 have hst : St w NoM [] [LxG] w := St.init_Ds (by simp only [List.forall_mem_cons]; exact ⟨hG, fun _ h => absurd h List.not_mem_nil⟩)
 refine SR <| CN <| Op1.assign (v := _) rfl <| CN <| Op1.alloc hst za0 fun w b5 hst => NSR <| MS rfl <| CN (Op1.call1 (v1 := str _) zwl rfl rfl ((zgB s _ (hst.hD _ Q0) hl).mono fun v w hp => ?_))
 obtain ⟨ao, cp, rfl, hp⟩ := hp
 replace hst := hst.call0 hp
 clear hp
 refine CN <| zad (v := .tuple #[.slice _ _ _, gII _ _]) rfl <| CN <| Ex (.slice _ _ _) rfl rfl <| CN <| Ex (gII _ _) rfl rfl <| CN <| Op1.alloc hst za0 fun w b7 hst => AL rfl <| CN (SO (v := gII _ _) hst za0 rfl rfl .u0 fun w hst => ?_)
 refine NL <| SQ <| RunD.start [] hst (bs := [0, 0, 0, 7, 15, 0, 31, 127]) (ds := [some 13, some 14, some 15, some 16, some 17, some 18, some 4, none]) ⟨Kr, Kr, Kr⟩ (fun tab1 => ?_)
 refine DO tab1 1 (fun f' L' w' hc=> zad (v := str _) (hc.old rfl rfl rfl) hc.z) <| DO tab1 2 (fun f' L' w' hc=> zad (v := .slice _ _ _) (hc.old rfl rfl rfl) hc.z) <| DO tab1 3 (fun f' L' w' hc=> zad (v := .int .u32 _) (hc.old rfl rfl rfl) hc.z) <| DO tab1 4 (fun _ _ _ hc => zag ty130 stf130 (.c (v := str _) (hc.d 0 rfl rfl rfl rfl) (h := (.c (v := .slice _ _ _) (hc.d 1 rfl rfl rfl rfl) (h := (.c (v := .int .u32 _) (hc.d 2 rfl rfl rfl rfl) (h := .nil)))))) hc.z) ?_
 refine RunD.op (fun v rs => ∃ b, v = .pointer (some ⟨b, 0, none⟩) ∧ rs = [Res.row b 130 [str s, .slice ao (za7 s).1.length cp, .int .i64 ((0 : Nat) : Int), .int .u32 bound, .int .i64 0, .int .i64 0]]) tab1 5 (fun f' L' w' hc=> zbi (vs := [str s, .slice ao (za7 s).1.length cp, .int .i64 ((0 : Nat) : Int), .int .u32 bound, .int .i64 0, .int .i64 0]) hc.st (hc.d 3 rfl rfl rfl rfl) rfl fun w b hst => ⟨[_], ⟨b, rfl, rfl⟩, hst⟩) <| DO tab1 6 (fun f' L' w' hc=> zar (vs := lII _ _) za0 rfl (hc.old (v := Pp _ _) rfl rfl rfl) rfl (zac (n := 2) (hc.st.objL (List.mem_append_right _ Q0)) _ rfl) hc.z) <| zfX (fun g v rs => v = g 17 ∧ rs = []) tab1 7 (fun f' L' w' hc=> Op1.assign (v := f' 17) (evs rfl rfl) ⟨[], fun g hg => ⟨(hg 4 17 rfl rfl).symm, rfl⟩, hc.st⟩) <| RunD.fin zaw tab1 hst rfl (fun f2 w R5 hs3 hd4 hr6 hst => ?_)
 obtain ⟨h13_, r0⟩ := hd4 0 13 rfl rfl
 obtain ⟨h14_, r1⟩ := hd4 1 14 rfl rfl
 obtain ⟨h15_, r2⟩ := hd4 2 15 rfl rfl
 obtain ⟨h16_, r3⟩ := hd4 3 16 rfl rfl
 obtain ⟨b17, h17_, r4⟩ := hd4 4 17 rfl rfl
 obtain ⟨h18_, r5⟩ := hd4 5 18 rfl rfl
 obtain ⟨h4_, r6⟩ := hd4 6 4 rfl rfl
 rw [DrawTab.mask tab1 _ (j := 6) (l := 4) (t := 17) rfl rfl, h17_] at h4_
 simp only [rg7, Fc, Fn, Mc, Mn, r0, r1, r2, r3, r4, r5, r6, Na, An, Ca] at hst
 refine zaD (sl := [(4, Pp _ _), (5, Pp _ _), (18, gII _ _)]) ⟨h4_, (hs3 5 rfl).trans rfl, h18_, trivial⟩ ?_
 clear hs3 hd4 hr6 tab1
 refine CN (SO (v := gII _ _) hst za0 rfl rfl .u3 fun w hst => ?_)
 refine NL <| zai Tryz.func72 rfl (TP (v := Pp _ _) rfl) (zal (vs := lII _ _) rfl za0 rfl rfl (zac (n := 2) (hst.objL Q3) _ rfl)) ?_
 replace hst := hst.pick (.cons .u0 (.cons .u1 .nil))
 exact ⟨_, _, _, rfl, hst.noD⟩
theorem zo0 (s : Tx) (w : World) (hG : LxG.holds w) (hl : s.length ≤ 1099511627776) : Ret Tryz.prog 44 #[str s] w (fun v w' => v = .tuple #[.agg #[.int .u32 (zcf s).1.1, .int .u32 (zcf s).1.2], .agg #[.int .i64 (zcf s).2.1, .int .i64 (zcf s).2.2]] ∧ St w NoM [] [] w') := by
 refine zav (args := [str s]) Tryz.func44 rfl rfl rfl ?_
 have hst : St w NoM [] [LxG] w := St.init_Ds (by simp only [List.forall_mem_cons]; exact ⟨hG, fun _ h => absurd h List.not_mem_nil⟩)
 refine SR <| CN <| Op1.alloc hst zcm fun w b2 hst => CN <| Op1.alloc hst za0 fun w b3 hst => NSR <| MS rfl <| CN (zaz (v1 := str _) (v2 := .int .u32 _) ent72 rfl rfl rfl ((zoY s 0 _ (hst.hD _ Q0) hl).mono fun v w hp => ?_))
 obtain ⟨bq, ao, cp, rfl, hp⟩ := hp
 replace hst := hst.call0 hp
 clear hp
 refine CN <| zad (v := .tuple #[Pp _ _, gII _ _]) rfl <| CN <| Ex (Pp _ _) rfl rfl <| CN <| Ex (gII _ _) rfl rfl <| CN <| Op1.alloc hst za0 fun w b5 hst => AP rfl <| CN (SO (v := gII _ _) hst za0 rfl rfl .u0 fun w hst => ?_)
 refine NL <| SQ <| SR <| CN <| zaa zbr rfl <| CN <| zae (v := .int .i64 _) zcO rfl rfl (hst.cellL Q0 rfl) <| CN <| zaW rfl rfl <| NL <| zab rfl (fun g1 => ?_) (fun g1 => ?_)
 ·refine SQ ?_
  replace hst := hst.pick (.cons .u4 (.cons .u0 (.cons .u0 (.cons .u0 (.cons .u0 .nil)))))
  apply RunD.start [(2, Res.row b2 81 _, Res.row b2 81 _)] hst (bs := [0, 0, 1, 7]) (ds := [some 16, some 17, none, none]) (htab := ⟨Kr, Kr, Kr⟩)
  intro tab2
  refine DO tab2 1 (fun _ _ _ hc => zag zcm zed .nil hc.z) ?_
  refine DO tab2 2 (fun f' L' w' hc=> zar (vs := lII _ _) za0 rfl (hc.old (v := Pp _ _) rfl rfl rfl) rfl (zac (n := 2) (hc.st.objL (List.mem_append_right _ Q0)) _ rfl) hc.z) <| zcd tab2 3 Q0 (fun f' L' L2 w' hc hsel => zbC (v := gUU _ _) hc.st zcm (hc.old (v := Pp _ _) rfl rfl rfl) (hc.d 0 rfl rfl rfl rfl) rfl rfl rfl hsel (by repeat (first | exact Put.nil | apply Put.put | apply Put.skip)) fun w hst => ⟨rfl, hst⟩) ?_
  refine RunD.fin zaw tab2 hst rfl (fun f3 w R6 hs4 hd5 hr7 hst => ?_)
  obtain ⟨h16_, r0⟩ := hd5 0 16 rfl rfl
  obtain ⟨h17_, r1⟩ := hd5 1 17 rfl rfl
  obtain ⟨_, _, r2⟩ := hr7 2 rfl
  simp only [rg3, Fc, Fn, Mc, Mn, r0, r1, r2, Na, An, Ca] at hst
  refine zaD (sl := [(2, Pp _ _), (3, Pp _ _), (17, gII _ _)]) ⟨(hs4 2 rfl).trans rfl, (hs4 3 rfl).trans rfl, h17_, trivial⟩ ?_
  clear hs4 hd5 hr7 tab2
  refine CN (SO (v := gII _ _) hst za0 rfl rfl .u4 fun w hst => ?_)
  refine NL <| zai Tryz.func44 rfl (zal (vs := lUU _ _) rfl zcm rfl rfl (zac (n := 2) (hst.objL Q0) _ rfl)) (zal (vs := lII _ _) rfl za0 rfl rfl (zac (n := 2) (hst.objL Q4) _ rfl)) ?_
  have he : zcf s = ((0, 0), (za7 s).2) := if_pos g1
  rw [he]
  exact ⟨rfl, hst.pure⟩
 refine zaf <| SQ ?_
 replace hst := hst.pick (.cons .u0 (.cons .u0 (.cons .u1 (.cons .u1 (.cons .u0 .nil)))))
 replace hst := hst.toD (L1 := [_, _, _, _]) (L2 := [_])
 refine RG <| MP rfl ?_
 replace hst := hst.pick (.cons .u1 (.cons .u0 (.cons .u0 (.cons .u0 .nil))))
 refine CN (Op1.call1 (v1 := Pp _ _) ent93 rfl rfl ((zu5 _ s _ _ (za7 s).1 _ _ _ _ (hst.hL _ Q0) (hst.hD _ Q0) (hst.sepD _ Q0 _ Q0) hl (zhH s) (zgi s) (hst.hD _ Q1) (hst.sepD _ Q0 _ Q1)).mono fun v w hp => ?_))
 rcases hp with ⟨q, hq, hq0, rfl, a2, hp⟩ | ⟨gn, bd, hq, rfl, a2, hp⟩
 ·replace hst := hst.call1 hp
  clear hp
  refine CN <| zad (v := .tuple #[gUU _ _, .bool _]) rfl <| CN <| Ex (gUU _ _) rfl rfl <| CN <| Ex (.bool _) rfl rfl <| CN <| Op1.alloc hst zcm fun w b6 hst => CN (SO (v := gUU _ _) hst zcm rfl rfl .u0 fun w hst => ?_)
  refine AB rfl <| NL <| zaj [(2, Pp _ _), (3, Pp _ _), (4, Pp _ _), (6, Pp _ _), (7, .bool _)] E5 fun f => SQ <| SR <| MB rfl <| CN <| zaZ rfl <| NL <| zax (Vb (congrArg not (rfl : false = _))) <| SQ ?_
  replace hst := hst.pick (.cons .u4 (.cons .u0 (.cons .u0 (.cons .u0 (.cons .u0 .nil)))))
  apply RunD.start [(5, Res.row b2 81 _, Res.row b2 81 _)] hst (bs := [0, 0, 2, 6, 14, 1, 63]) (ds := [some 25, some 26, some 27, some 28, some 29, none, none]) (htab := ⟨Kr, Kr, Kr⟩)
  intro tab8
  refine DO tab8 1 (fun _ _ _ hc => zag zcm zed .nil hc.z) ?_
  refine DO tab8 2 (fun f' L' w' hc=> zad (v := Pp _ _) (hc.old rfl rfl rfl) hc.z) <| DO tab8 3 (fun f' L' w' hc=> zaK (hc.d 1 rfl rfl rfl rfl) hc.z) <| DO tab8 4 (fun f' L' w' hc=> zaa zmz (hc.d 2 rfl rfl rfl rfl) hc.z) <| DO tab8 5 (fun f' L' w' hc=> zar (vs := lII _ _) za0 rfl (hc.d 3 rfl rfl rfl rfl) rfl (zac (n := 2) (hc.st.objL (List.mem_append_right _ Q1)) _ rfl) hc.z) <| zcd tab8 6 Q0 (fun f' L' L2 w' hc hsel => zbC (v := gUU _ _) hc.st zcm (hc.old (v := Pp _ _) rfl rfl rfl) (hc.d 0 rfl rfl rfl rfl) rfl rfl rfl hsel (by repeat (first | exact Put.nil | apply Put.put | apply Put.skip)) fun w hst => ⟨rfl, hst⟩) ?_
  refine RunD.fin zaw tab8 hst rfl (fun f9 w R12 hs10 hd11 hr13 hst => ?_)
  obtain ⟨h25_, r0⟩ := hd11 0 25 rfl rfl
  obtain ⟨h26_, r1⟩ := hd11 1 26 rfl rfl
  obtain ⟨h27_, r2⟩ := hd11 2 27 rfl rfl
  obtain ⟨h28_, r3⟩ := hd11 3 28 rfl rfl
  obtain ⟨h29_, r4⟩ := hd11 4 29 rfl rfl
  obtain ⟨_, _, r5⟩ := hr13 5 rfl
  simp only [rg6, Fc, Fn, Mc, Mn, r0, r1, r2, r3, r4, r5, Na, An, Ca] at hst
  refine zaD (sl := [(2, Pp _ _), (3, Pp _ _), (29, gII _ _)]) ⟨(hs10 2 rfl).trans rfl, (hs10 3 rfl).trans rfl, h29_, trivial⟩ ?_
  clear hs10 hd11 hr13 tab8
  refine CN (SO (v := gII _ _) hst za0 rfl rfl .u4 fun w hst => ?_)
  refine NL <| zai Tryz.func44 rfl (zal (vs := lUU _ _) rfl zcm rfl rfl (zac (n := 2) (hst.objL Q0) _ rfl)) (zal (vs := lII _ _) rfl za0 rfl rfl (zac (n := 2) (hst.objL Q4) _ rfl)) ?_
  have he : zcf s = zcK s.length (za7 s).1 := if_neg g1
  rw [he, hq]
  exact ⟨rfl, hst.pure⟩
 ·replace hst := hst.call1 hp
  clear hp
  refine CN <| zad (v := .tuple #[gUU _ _, .bool _]) rfl <| CN <| Ex (gUU _ _) rfl rfl <| CN <| Ex (.bool _) rfl rfl <| CN <| Op1.alloc hst zcm fun w b6 hst => CN (SO (v := gUU _ _) hst zcm rfl rfl .u0 fun w hst => ?_)
  refine AB rfl <| NL <| zaj [(2, Pp _ _), (3, Pp _ _), (4, Pp _ _), (6, Pp _ _), (7, .bool _)] E5 fun f => SQ <| SR <| MB rfl <| CN <| zaZ rfl <| NL <| zat (Vb (congrArg not (rfl : true = _))) <| zaf <| SR <| CN <| zar (vs := lUU _ _) zcm rfl rfl rfl (zac (n := 2) (hst.objL Q0) _ rfl) <| CN (zag za0 zcE .nil ?_)
  refine CN (SO (v := gUU _ _) hst zcm rfl rfl .u4 fun w hst => ?_)
  refine CN (SO (v := gII _ _) hst za0 rfl rfl .u3 fun w hst => ?_)
  refine NL <| zai Tryz.func44 rfl (zal (vs := lUU _ _) rfl zcm rfl rfl (zac (n := 2) (hst.objL Q4) _ rfl)) (zal (vs := lII _ _) rfl za0 rfl rfl (zac (n := 2) (hst.objL Q3) _ rfl)) ?_
  have he : zcf s = zcK s.length (za7 s).1 := if_neg g1
  rw [he, hq]
  exact ⟨rfl, hst.pure⟩
end Go.SK
namespace Go.SK
open Go Go.Proofs
theorem zmx : FldF Tryz.prog 81 0 0 := FldF.of (n := 0) Kr
theorem zmw : FldF Tryz.prog 81 1 1 := FldF.of (n := 0) Kr
end Go.SK
namespace Go.SK
open Go Go.Proofs
open Go.RowKit
theorem zk2 (c : Int) (q : zdD) (h0 : 0 ≤ c) (h1 : c ≤ 255) (w : World) : Ret Tryz.prog 209 #[.int .u8 c, str q] w (fun v w' => v = numV (namesL.find? (enS c q)) ∧ St w NoM [] [] w') := by
 refine zav (args := [.int .u8 c, str q]) Tryz.func209 rfl rfl rfl ?_
 have hst := St.init w
 refine SR <| CN <| zbi (v := str _) hst rfl rfl fun w b3 hst => CN <| Op1.alloc hst zbt fun w b4 hst => CN <| Op1.alloc hst ty4 fun w b5 hst => NL <| SQ <| SR <| MC rfl <| CN (Op1.call1 (v1 := .int .u8 _) zxb rfl rfl ((zlS _ _).mono fun v w hp => ?_))
 obtain ⟨bc, rfl, hp⟩ := hp
 replace hst := hst.call0 hp
 clear hp
 refine NL <| zao ?_
 replace hst := hst.addProp (p := ((zbw c).drop 0).find? (fun x => decide (x.name = q)) = (zbw c).find? (fun x => decide (x.name = q))) (rfl)
 replace hst := hst.pick (.cons .u0 (.cons .u2 (.cons .u1 (.cons .u0 (.cons .u0 .nil)))))
 refine zee (L1 := [_, _, _]) (L2 := [_, _]) (item := (fun j => [.int .u32 ((zbw c).getD j zcz).n, str ((zbw c).getD j zcz).name])) (FD := (· = bc)) (fun i => [Res.prop (((zbw c).drop i).find? (fun x => decide (x.name = q)) = (zbw c).find? (fun x => decide (x.name = q))), Res.row b4 22 [.int .u32 0], Res.row b5 4 [.bool false]]) (fun i => [Res.prop ((zbw c).find? (fun x => decide (x.name = q)) = some ((zbw c).getD i zcz)), Res.row b4 22 [.int .u32 ((zbw c).getD i zcz).n], Res.row b5 4 [.bool true]]) (fun _ => .ret) hst rfl rfl zxa (fun b hb => .inl (by subst hb; exact ⟨_, Q0, rfl⟩)) (fun w1 hw1 => zi3 c h0 h1 bc w1 (hw1.hL _ Q3)) (fun _ _ => rfl) ?_ ?_ ?_
 ·intro i hi w bl br lp hlp hst hk
  have hprop : ((zbw c).drop i).find? (fun x => decide (x.name = q)) = (zbw c).find? (fun x => decide (x.name = q)) := hst.hL _ Q2
  refine SR <| AU rfl <| NR <| AS rfl <| NL <| zfl hlp hst .u0 fun w hst => zao <| SR <| MS rfl <| CN <| zae (v := str _) ty9 rfl rfl (hst.cellD Q1 rfl) <| CN <| zbV rfl rfl <| NL ?_
  refine zab rfl (fun g1 => ?_) (fun g1 => ?_)
  ·refine SR <| MU rfl <| CN (SO (v := .int .u32 _) hst zbt rfl rfl .u3 fun w hst => ?_)
   refine CN (SO (v := .bool _) hst ty4 rfl rfl .u4 fun w hst => ?_)
   refine NL <| zfH hst .u0 fun w hst => ?_
   replace hst := hst.addProp (p := (zbw c).find? (fun x => decide (x.name = q)) = some ((zbw c).getD i zcz)) (zfQ (d := zcz) hprop hi (Dt g1))
   replace hst := hst.pick (.cons .u1 (.cons .u1 (.cons .u0 (.cons .u1 (.cons .u1 .nil)))))
   exact .inr ⟨rfl, _, hst⟩
  refine zaf <| zam <| zdP hlp hst .u0 fun w hst => ?_
  replace hst := hst.addProp (p := ((zbw c).drop (i + 1)).find? (fun x => decide (x.name = q)) = (zbw c).find? (fun x => decide (x.name = q))) (zdz (d := zcz) hprop hi (Df g1))
  replace hst := hst.pick (.cons .u1 (.cons .u1 (.cons .u0 (.cons .u1 (.cons .u1 .nil)))))
  exact .inl ⟨rfl, _, hst⟩
 ·intro w bl br lp hst
  have hall : ((zbw c).drop (zbw c).length).find? (fun x => decide (x.name = q)) = (zbw c).find? (fun x => decide (x.name = q)) := hst.hL _ Q2
  refine zam <| SR <| CN (SO (v := .int .u32 _) hst zbt rfl rfl .u3 fun w hst => ?_)
  refine CN (SO (v := .bool _) hst ty4 rfl rfl .u4 fun w hst => ?_)
  refine NL ?_
  replace hst := hst.pick (.cons .u1 (.cons .u0 (.cons .u0 (.cons .u0 (.cons .u0 (.cons .u0 (.cons .u0 .nil)))))))
  refine zb6 [br] Tryz.func209 hst fun w hst => ⟨_, zvj rfl (zdf (v := .int .u32 _) rfl zbt rfl (hst.cellL Q2 rfl)) (zdf (v := .bool _) rfl ty4 rfl (hst.cellL Q3 rfl)), ?_⟩
  rw [← zkn, zfR hall (Nat.le_refl _)]
  exact ⟨rfl, hst.pure⟩
 ·intro i hi w bl br lp hst
  have hs : (zbw c).find? (fun x => decide (x.name = q)) = some ((zbw c).getD i zcz) := hst.hL _ Q2
  replace hst := hst.pick (.cons .u1 (.cons .u0 (.cons .u0 (.cons .u0 (.cons .u0 (.cons .u0 (.cons .u0 .nil)))))))
  refine zb6 [br] Tryz.func209 hst fun w hst => ⟨_, zvj rfl (zdf (v := .int .u32 _) rfl zbt rfl (hst.cellL Q2 rfl)) (zdf (v := .bool _) rfl ty4 rfl (hst.cellL Q3 rfl)), ?_⟩
  rw [← zkn, hs]
  exact ⟨rfl, hst.pure⟩
end Go.SK
namespace Go.SK
open Go Go.Proofs
open Go.RowKit
theorem zwL  (w : World) : Ret Tryz.prog 171 #[] w (fun v w' => v = .func (.func 206) #[] #[] ∧ St w NoM [] [] w') := by
 refine zav (args := []) Tryz.func171 rfl rfl rfl ?_
 have hst := St.init w
 refine SR <| CN <| Op1.assign (v := _) rfl <| NSR <| CN <| Op1.assign (v := .func _ _ _) rfl <| NL <| zah Tryz.func171 rfl (TP (v := .func _ _ _) rfl) ?_
 exact ⟨rfl, hst.pure⟩
theorem zsQ (w : World) : zrx Tryz.prog 206 [] refT.length (fun j => [.agg (zh4 (refT.getD j zeroF)).toArray]) (fun _ => False) w := by
 intro yv R S hR hFD hy
 have hyx : ∀ n : Nat, n < 256 → (zbv (n : Int)).isSome = true → ∀ w1, St w (R 0).foot [R (ziu n).length] [] w1 → CallV Tryz.prog yv [.agg (zh4 ((zbv (n : Int)).getD zeroF)).toArray] w1 fun v w2 => (v = .bool true ∧ St w1 (R (ziu n).length).foot [R ((ziu n).length + 1)] [] w2) ∨ (v = .bool false ∧ St w1 (R (ziu n).length).foot [S (ziu n).length] [] w2) := fun n hn hs w1 hw1 => by
  have hk := (zjy hn).2 hs
  have t := hy _ hk.2 w1 hw1
  dsimp only at t
  rwa [hk.1] at t
 refine zav (args := [yv]) Tryz.func206 rfl rfl rfl ?_
 have hst : St w (R 0).foot [R 0] [] w := St.enter1 hR (fun d hd => by cases hd) (fun d hd => by cases hd)
 refine SR <| MH rfl <| NL <| zao <| zaV <| zaU [(0, _)] ⟨rfl, trivial⟩ (fun (n : Nat) => [(5, .int .u16 (n : Int))]) (fun (n : Nat) => [R (ziu n).length]) (fun (n : Nat) => n ≤ 256) (fun (n : Nat) => 256 - n) (0) (by (try dsimp only); rw [zya]; exact hst) (Nat.zero_le _) ⟨rfl, trivial⟩ ?_
 intro n f w hst hJ ih1
 refine SR <| CN <| zaS rfl rfl <| NL <| SQ <| zab rfl (fun g2 => ?_) (fun g2 => ?_)
 ·refine zaf <| SQ <| zao <| SR <| MH rfl <| AH rfl <| NSR <| MH rfl <| CN <| Op1.call1 (v1 := .int .u16 _) zue rfl rfl <| Ret.det (zqh _ Om _) hst fun w hst => CN <| zad (v := .tuple #[zau _ _ _ _ _ _ _ _, .bool _]) rfl <| CN <| Ex (zau _ _ _ _ _ _ _ _) rfl rfl <| CN (Ex (.bool _) rfl rfl ?_)
  refine CN <| Op1.alloc hst zaM fun w b3 hst => CN (SO (v := zau _ _ _ _ _ _ _ _) hst zaM rfl rfl .u0 fun w hst => ?_)
  refine AB rfl <| NSR <| MB rfl <| MB rfl <| zbH (d := 14) rfl (fun g3 => ?_) (fun g3 => ?_)
  ·refine TK (t := 14) rfl (Vb g3) <| zad (v := _) rfl <| TK (t := 14) rfl (Vb g3) (zar (vs := zaC _ _ _ _ _ _ _ _) zaM rfl rfl rfl (zac (n := 8) (hst.objL Q0) _ rfl) ?_)
   replace hst := hst.pick (.cons .u1 (.cons .u0 .nil))
   refine TK (t := 14) rfl (Vb g3) (zdM (v1 := zau _ _ _ _ _ _ _ _) rfl rfl ((hyx n Om g3 _ hst.one).mono fun v w hp => ?_))
   rcases hp with ⟨rfl, hp⟩ | ⟨rfl, hp⟩
   ·replace hst := hst.call1 hp
    clear hp
    refine TK (t := 14) rfl (Vb g3) <| zaZ rfl <| CN <| zap (u := .bool _) (Vb g3) rfl <| NL <| zat (Vb (congrArg not (rfl : true = _))) <| zaf <| zam <| RG <| CN <| zas rfl rfl rfl Wu16 <| MH rfl <| NL <| zay ?_
    replace hst := hst.pick (.cons .u0 .nil)
    exact ih1 (n + 1) _ w (by omega) (by (try dsimp only); rw [zmP (by omega) g3]; simp only [List.length_append, List.length_singleton]; exact hst) (by omega) ⟨rfl, trivial⟩ ⟨(congrArg (Value.int .u16) (by omega)), trivial⟩
   ·replace hst := hst.call1 hp
    clear hp
    refine TK (t := 14) rfl (Vb g3) <| zaZ rfl <| CN <| zap (u := .bool _) (Vb g3) rfl <| NL <| zax (Vb (congrArg not (rfl : false = _))) <| zjf Tryz.func206 rfl  ?_
    replace hst := hst.pick (.cons .u0 (.cons .u0 .nil))
    exact .inr ⟨(ziu n).length, ((zjy Om).2 g3).2, hst.one⟩
  refine OM (t := 14) rfl (Vb g3) rfl <| OM (t := 14) rfl (Vb g3) rfl <| OM (t := 14) rfl (Vb g3) rfl <| OM (t := 14) rfl (Vb g3) rfl <| CN <| zaq (u := .bool _) (Vb g3) rfl <| NL <| zat (Vb (rfl : false = _)) <| zaf <| zam <| RG <| CN <| zas rfl rfl rfl Wu16 <| MH rfl <| NL <| zay ?_
  replace hst := hst.pick (.cons .u1 .nil)
  exact ih1 (n + 1) _ w (by omega) (by (try dsimp only); rw [zmQ (by omega) g3]; exact hst) (by omega) ⟨rfl, trivial⟩ ⟨(congrArg (Value.int .u16) (by omega)), trivial⟩
 refine zaJ (id := 0) rfl <| zef Tryz.func206 rfl  ?_
 replace hst := hst.pick (.cons .u0 .nil)
 obtain rfl : n = 256 := by omega
 rw [zpR] at hst
 exact .inl hst.one
end Go.SK
namespace Go.SK
open Go Go.Proofs
theorem ent171 : zaN Tryz.prog 171 := ⟨Tryz.f171, _, Tryz.func171, Kr, rfl⟩
theorem ent206 : zaN Tryz.prog 206 := ⟨Tryz.f206, _, Tryz.func206, Kr, rfl⟩
end Go.SK
namespace Go.SK
open Go Go.Proofs
open Go.RowKit
theorem zsD (q : zdD) (w : World) : Ret Tryz.prog 127 #[str q] w (fun v w' => v = zv6 (refT.find? (nmF q)) ∧ St w NoM [] [] w') := by
 refine zav (args := [str q]) Tryz.func127 rfl rfl rfl ?_
 have hst := St.init w
 refine SR <| CN <| zbi (v := str _) hst rfl rfl fun w b1 hst => CN <| Op1.alloc hst zaM fun w b2 hst => CN <| Op1.alloc hst ty4 fun w b3 hst => NL <| SQ <| SR <| CN <| Op1.call0  ent171 rfl  <| Ret.det (zwL _) hst fun w hst => NL <| zao ?_
 replace hst := hst.addProp (p := (refT.drop 0).find? (nmF q) = refT.find? (nmF q)) (rfl)
 replace hst := hst.pick (.cons .u0 (.cons .u1 (.cons .u0 (.cons .u0 .nil))))
 refine zee (L1 := [_, _, _]) (L2 := [_]) (item := (fun j => [.agg (zh4 (refT.getD j zeroF)).toArray])) (FD := (fun _ => False)) (fun i => [Res.prop ((refT.drop i).find? (nmF q) = refT.find? (nmF q)), Res.row b2 113 [.int .u16 zeroF.op, str zeroF.name, .bool zeroF.ty, .bool zeroF.res, str zeroF.fixed, str zeroF.rest, .int .i64 zeroF.most, .int .u8 zeroF.part], Res.row b3 4 [.bool false]]) (fun i => [Res.prop (refT.find? (nmF q) = some (refT.getD i zeroF)), Res.row b2 113 [.int .u16 (refT.getD i zeroF).op, str (refT.getD i zeroF).name, .bool (refT.getD i zeroF).ty, .bool (refT.getD i zeroF).res, str (refT.getD i zeroF).fixed, str (refT.getD i zeroF).rest, .int .i64 (refT.getD i zeroF).most, .int .u8 (refT.getD i zeroF).part], Res.row b3 4 [.bool true]]) (fun _ => .ret) hst rfl rfl ent206 (fun b hb => hb.elim) (fun w1 _ => zsQ w1) (fun _ _ => rfl) ?_ ?_ ?_
 ·intro i hi w bl br lp hlp hst hk
  have hprop : (refT.drop i).find? (nmF q) = refT.find? (nmF q) := hst.hL _ Q2
  refine RG <| CN <| Op1.alloc hst zaM fun w b4 hst => CN (SO (v := zau _ _ _ _ _ _ _ _) hst zaM rfl rfl .u0 fun w hst => ?_)
  refine NL <| zfl hlp hst .u1 fun w hst => zao <| SR <| CN <| zaa zjv rfl <| CN <| zae (v := str _) ty9 rfl rfl (hst.cellL Q0 rfl) <| CN <| zae (v := str _) ty9 rfl rfl (hst.cellD Q0 rfl) <| CN <| zbV rfl rfl <| NL <| zab rfl (fun g1 => ?_) (fun g1 => ?_)
  ·refine SR <| CN <| zar (vs := zaC _ _ _ _ _ _ _ _) zaM rfl rfl rfl (zac (n := 8) (hst.objL Q0) _ rfl) <| CN (SO (v := zau _ _ _ _ _ _ _ _) hst zaM rfl rfl .u4 fun w hst => ?_)
   refine CN (SO (v := .bool _) hst ty4 rfl rfl .u5 fun w hst => ?_)
   refine NL <| zfH hst .u1 fun w hst => ?_
   replace hst := hst.addProp (p := refT.find? (nmF q) = some (refT.getD i zeroF)) (zfQ (d := zeroF) hprop hi (Dt g1))
   replace hst := hst.pick (.cons .u2 (.cons .u2 (.cons .u0 (.cons .u2 (.cons .u2 .nil)))))
   exact .inr ⟨rfl, _, hst⟩
  refine zaf <| zam <| zdP hlp hst .u1 fun w hst => ?_
  replace hst := hst.addProp (p := (refT.drop (i + 1)).find? (nmF q) = refT.find? (nmF q)) (zdz (d := zeroF) hprop hi (Df g1))
  replace hst := hst.pick (.cons .u2 (.cons .u2 (.cons .u0 (.cons .u2 (.cons .u2 .nil)))))
  exact .inl ⟨rfl, _, hst⟩
 ·intro w bl br lp hst
  have hall : (refT.drop refT.length).find? (nmF q) = refT.find? (nmF q) := hst.hL _ Q2
  refine zam <| SR <| CN (zag zaM zli .nil ?_)
  refine CN (SO (v := zau _ _ _ _ _ _ _ _) hst zaM rfl rfl .u3 fun w hst => ?_)
  refine CN (SO (v := .bool _) hst ty4 rfl rfl .u4 fun w hst => ?_)
  refine NL ?_
  replace hst := hst.pick (.cons .u1 (.cons .u0 (.cons .u0 (.cons .u0 (.cons .u0 (.cons .u0 .nil))))))
  refine zb6 [br] Tryz.func127 hst fun w hst => ⟨_, zvj rfl (zal (vs := zaC _ _ _ _ _ _ _ _) rfl zaM rfl rfl (zac (n := 8) (hst.objL Q2) _ rfl)) (zdf (v := .bool _) rfl ty4 rfl (hst.cellL Q3 rfl)), ?_⟩
  rw [zfR hall (Nat.le_refl _)]
  exact ⟨rfl, hst.pure⟩
 ·intro i hi w bl br lp hst
  have hs : refT.find? (nmF q) = some (refT.getD i zeroF) := hst.hL _ Q2
  replace hst := hst.pick (.cons .u1 (.cons .u0 (.cons .u0 (.cons .u0 (.cons .u0 (.cons .u0 .nil))))))
  refine zb6 [br] Tryz.func127 hst fun w hst => ⟨_, zvj rfl (zal (vs := zaC _ _ _ _ _ _ _ _) rfl zaM rfl rfl (zac (n := 8) (hst.objL Q2) _ rfl)) (zdf (v := .bool _) rfl ty4 rfl (hst.cellL Q3 rfl)), ?_⟩
  rw [hs]
  exact ⟨rfl, hst.pure⟩
end Go.SK
namespace Go.SK
open Go Go.Proofs
theorem zq3 : FldF Tryz.prog 130 3 3 := FldF.of (n := 0) Kr
end Go.SK
namespace Go.SK
open Go Go.Proofs
open Go.RowKit
theorem zlV (bq : Nat) (s : Tx) (ao : Option Addr) (cp : Nat) (l : List TokL) (a : Nat) (bound e p : Int) (t : Tx) (m : Nat) (ht : zbn t = some m) (w : World) (hB : (Res.row bq 130 [str s, .slice ao l.length cp, .int .i64 (a : Int), .int .u32 bound, .int .i64 e, .int .i64 p]).holds w) (hbd : 0 ≤ bound ∧ bound < 4294967296) : Ret Tryz.prog 129 #[.pointer (some ⟨bq, 0, none⟩), str t] w (fun v w' => v = .int .u32 (idL t bound) ∧ St w (Res.row bq 130 [str s, .slice ao l.length cp, .int .i64 (a : Int), .int .u32 bound, .int .i64 e, .int .i64 p]).foot [Res.row bq 130 [str s, .slice ao l.length cp, .int .i64 (a : Int), .int .u32 bound, .int .i64 e, .int .i64 p]] [] w') := by
 refine zav (args := [.pointer (some ⟨bq, 0, none⟩), str t]) Tryz.func129 rfl rfl rfl ?_
 have hst : St w (Res.row bq 130 [str s, .slice ao l.length cp, .int .i64 (a : Int), .int .u32 bound, .int .i64 e, .int .i64 p]).foot [Res.row bq 130 [str s, .slice ao l.length cp, .int .i64 (a : Int), .int .u32 bound, .int .i64 e, .int .i64 p]] [] w := St.enter1 hB (fun d hd => by cases hd) (fun d hd => by cases hd)
 refine SR <| AU rfl <| NSR <| CN <| Op1.assign (v := .int .u64 _) rfl <| NL <| SQ <| SR <| MS rfl <| CN <| zaL (rest := []) ty9 rfl <| MI rfl <| NL ?_
 refine zao <| zaV <| zaU [(0, Pp _ _), (1, str _), (8, .int .i64 _)] E3 (fun (qq : Nat × Nat) => [(5, .int .u64 (qq.2 : Int)), (9, .int .i64 (qq.1 : Int))]) (fun (qq : Nat × Nat) => []) (fun (qq : Nat × Nat) => dgI t m qq.1 qq.2) (fun (qq : Nat × Nat) => t.length - qq.1) ((0, 0)) hst (zoo ht) E2 ?_
 intro ⟨i, n⟩ f w hst hJ ih1
 replace hst : St _ _ ([] ++ [_]) _ _ := hst
 replace hJ : dgI t m i n := hJ
 refine za2 (sl := [(5, .int .u64 (n : Int)), (9, .int .i64 (i : Int))]) E2 ?_
 have hj1 := hJ.le
 have hj2 := hJ.lt
 have hj3 := hJ.small
 have hj5 := hJ.len
 refine SR <| CN <| zaS rfl rfl <| NL <| SQ <| zab rfl (fun g2 => ?_) (fun g2 => ?_)
 ·have hb := zwr hJ Om
  have hbn := zwq hJ Om
  have hidx : (t.getD ((i : Int).toNat) 0).toNat = (t.getD i 0).toNat := rfl
  refine zaf <| SQ <| zao <| SR <| MI rfl <| AI rfl <| NR <| CN <| zad (v := .int .u64 _) rfl <| CN <| zbP rfl rfl rfl zdV <| MS rfl <| MI rfl <| CN <| zaH ty9 rfl rfl Om Om <| CN (zbx rfl rfl rfl Wu8 ?_)
  first | refine CN (zaY ty5 zbF rfl zdV ?_) | refine CN (za8 ty5 zbF rfl ?_)
  refine CN <| zas rfl rfl rfl zdV <| CN <| Op1.assign (v := .int .u64 _) rfl <| NL <| zam <| RG <| CN <| zas rfl rfl rfl zbe <| MI rfl <| NL <| zay ?_
  exact ih1 ((i + 1, 10 * n + ((t.getD i 0).toNat - 48))) _ w (Od) hst ((zre hJ Om)) E3 ⟨(congrArg (Value.int .u64) Od), (Vi Od), trivial⟩
 refine zaJ (id := 0) rfl <| SQ <| SR <| CN <| zad (v := .int .u64 _) rfl <| MP rfl <| CN <| zaK rfl <| CN <| zaa zq3 rfl <| CN (zae (v := .int .u32 _) zbt rfl rfl (hst.cellL Q0 rfl) ?_)
 first | refine CN (zaY zbt zbF rfl zdV ?_) | refine CN (za8 zbt zbF rfl ?_)
 refine CN <| zbo rfl rfl <| NL <| zab rfl (fun g3 => ?_) (fun g3 => ?_)
 ·refine SR <| AU rfl <| NL <| zah Tryz.func129 rfl (TP (v := .int .u32 _) rfl) ?_
  have hi : t.length ≤ i := by omega
  rw [zx1 hJ hi g3]
  exact ⟨rfl, hst⟩
 refine zaf <| SR <| CN (zad (v := .int .u64 _) rfl ?_)
 first | refine CN (zaY zbF zbt rfl zkM ?_) | refine CN (za8 zbF zbt rfl ?_)
 refine AU rfl <| NL <| zah Tryz.func129 rfl (TP (v := .int .u32 _) rfl) ?_
 have hi : t.length ≤ i := by omega
 rw [dgI_ok hJ hi g3]
 exact ⟨rfl, hst⟩
end Go.SK
namespace Go.SK
open Go Go.Proofs
theorem zxm : zaN Tryz.prog 129 := ⟨Tryz.f129, _, Tryz.func129, Kr, rfl⟩
theorem zxl : zaN Tryz.prog 130 := ⟨Tryz.f130, _, Tryz.func130, Kr, rfl⟩
end Go.SK
namespace Go.SK
open Go Go.Proofs
open Go.RowKit
theorem zu4 (bq : Nat) (s : Tx) (ao : Option Addr) (cp : Nat) (l : List TokL) (a : Nat) (bound e p : Int) (w : World) (hB : (Res.row bq 130 [str s, .slice ao l.length cp, .int .i64 (a : Int), .int .u32 bound, .int .i64 e, .int .i64 p]).holds w) (hT : (Res.sl ao l.length cp 72 3 (l.flatMap zbW)).holds w) (hTA : Apart (Res.row bq 130 [str s, .slice ao l.length cp, .int .i64 (a : Int), .int .u32 bound, .int .i64 e, .int .i64 p]) (Res.sl ao l.length cp 72 3 (l.flatMap zbW))) (hl : s.length ≤ 1099511627776) (hll : l.length ≤ s.length) (hts : wsz l ≤ 7 * s.length) (hbd : 0 ≤ bound ∧ bound < 4294967296) (hpl : ∀ i, i < l.length → (l.getD i zaR).kind = 2 → ∃ m, zbn (l.getD i zaR).text = some m) : Ret Tryz.prog 130 #[.pointer (some ⟨bq, 0, none⟩)] w (fun v w' => (l.length ≤ a ∧ v = .tuple #[.int .u32 0, .bool false] ∧ St w (Res.row bq 130 [str s, .slice ao l.length cp, .int .i64 (a : Int), .int .u32 bound, .int .i64 e, .int .i64 p]).foot [Res.row bq 130 [str s, .slice ao l.length cp, .int .i64 (a : Int), .int .u32 bound, .int .i64 72, .int .i64 (s.length)]] [] w') ∨ (a < l.length ∧ (l.getD a zaR).kind ≠ 2 ∧ v = .tuple #[.int .u32 0, .bool false] ∧ St w (Res.row bq 130 [str s, .slice ao l.length cp, .int .i64 (a : Int), .int .u32 bound, .int .i64 e, .int .i64 p]).foot [Res.row bq 130 [str s, .slice ao l.length cp, .int .i64 (a : Int), .int .u32 bound, .int .i64 70, .int .i64 ((l.getD a zaR).at_)]] [] w') ∨ (a < l.length ∧ (l.getD a zaR).kind = 2 ∧ idL (l.getD a zaR).text bound = 0 ∧ v = .tuple #[.int .u32 0, .bool false] ∧ St w (Res.row bq 130 [str s, .slice ao l.length cp, .int .i64 (a : Int), .int .u32 bound, .int .i64 e, .int .i64 p]).foot [Res.row bq 130 [str s, .slice ao l.length cp, .int .i64 (a + 1 : Int), .int .u32 bound, .int .i64 43, .int .i64 ((l.getD a zaR).at_)]] [] w') ∨ (a < l.length ∧ (l.getD a zaR).kind = 2 ∧ idL (l.getD a zaR).text bound ≠ 0 ∧ v = .tuple #[.int .u32 (idL (l.getD a zaR).text bound), .bool true] ∧ St w (Res.row bq 130 [str s, .slice ao l.length cp, .int .i64 (a : Int), .int .u32 bound, .int .i64 e, .int .i64 p]).foot [Res.row bq 130 [str s, .slice ao l.length cp, .int .i64 (a + 1 : Int), .int .u32 bound, .int .i64 e, .int .i64 p]] [] w')) := by
 refine zav (args := [.pointer (some ⟨bq, 0, none⟩)]) Tryz.func130 rfl rfl rfl ?_
 have hst : St w (Res.row bq 130 [str s, .slice ao l.length cp, .int .i64 (a : Int), .int .u32 bound, .int .i64 e, .int .i64 p]).foot [Res.row bq 130 [str s, .slice ao l.length cp, .int .i64 (a : Int), .int .u32 bound, .int .i64 e, .int .i64 p]] [Res.sl ao l.length cp 72 3 (l.flatMap zbW)] w := St.enter1 hB (by simp only [List.forall_mem_cons]; exact ⟨hT, fun _ h => absurd h List.not_mem_nil⟩) (by simp only [List.forall_mem_cons]; exact ⟨hTA, fun _ h => absurd h List.not_mem_nil⟩)
 refine SR <| AU rfl <| AB rfl <| NSR <| MP rfl <| CN (zaz (v1 := Pp _ _) (v2 := .int .u8 _) zko rfl rfl rfl ((zeN _ _ _ _ l a _ _ _ 2 _ (hst.hL _ Q0) (hst.hD _ Q0) (hst.sepD _ Q0 _ Q0) hl hll hts).mono fun v w hp => ?_))
 rcases hp with ⟨hk9, rfl, hp⟩ | ⟨hk9, hd9, rfl, hp⟩ | ⟨hk9, hd9, rfl, hp⟩
 ·replace hst := hst.call1 hp
  clear hp
  refine CN <| zad (v := .tuple #[zbO _ _ _, .bool _]) rfl <| CN <| Ex (zbO _ _ _) rfl rfl <| CN <| Ex (.bool _) rfl rfl <| CN <| Op1.alloc hst zbd fun w b4 hst => CN (SO (v := zbO _ _ _) hst zbd rfl rfl .u0 fun w hst => ?_)
  refine AB rfl <| NL <| SQ <| SR <| MB rfl <| CN <| zaZ rfl <| NL <| zax (Vb (congrArg not (rfl : false = _))) <| SR <| AU rfl <| AB rfl <| NL <| zai Tryz.func130 rfl (TP (v := .int .u32 _) rfl) (TP (v := .bool _) rfl) ?_
  replace hst := hst.pick (.cons .u1 .nil)
  exact .inl ⟨hk9, rfl, hst.noD⟩
 ·replace hst := hst.call1 hp
  clear hp
  refine CN <| zad (v := .tuple #[zbO _ _ _, .bool _]) rfl <| CN <| Ex (zbO _ _ _) rfl rfl <| CN <| Ex (.bool _) rfl rfl <| CN <| Op1.alloc hst zbd fun w b4 hst => CN (SO (v := zbO _ _ _) hst zbd rfl rfl .u0 fun w hst => ?_)
  refine AB rfl <| NL <| SQ <| SR <| MB rfl <| CN <| zaZ rfl <| NL <| zax (Vb (congrArg not (rfl : false = _))) <| SR <| AU rfl <| AB rfl <| NL <| zai Tryz.func130 rfl (TP (v := .int .u32 _) rfl) (TP (v := .bool _) rfl) ?_
  replace hst := hst.pick (.cons .u1 .nil)
  exact .inr (.inl ⟨hk9, hd9, rfl, hst.noD⟩)
 ·replace hst := hst.call1 hp
  clear hp
  refine CN <| zad (v := .tuple #[zbO _ _ _, .bool _]) rfl <| CN <| Ex (zbO _ _ _) rfl rfl <| CN <| Ex (.bool _) rfl rfl <| CN <| Op1.alloc hst zbd fun w b4 hst => CN (SO (v := zbO _ _ _) hst zbd rfl rfl .u0 fun w hst => ?_)
  refine AB rfl <| NL <| SQ <| SR <| MB rfl <| CN <| zaZ rfl <| NL <| zat (Vb (congrArg not (rfl : true = _))) <| zaf <| SR <| MP rfl <| CN <| zaa zbl rfl <| CN (zae (v := str _) ty9 rfl rfl (hst.cellL Q0 rfl) ?_)
  obtain ⟨m, hm⟩ := hpl a hk9 hd9
  replace hst := hst.pick (.cons .u1 (.cons .u0 .nil))
  refine CN (zaz (v1 := Pp _ _) (v2 := str _) zxm rfl rfl rfl ((zlV _ _ _ _ _ _ _ _ _ _ m hm _ (hst.hL _ Q0) hbd).mono fun v w hp => ?_))
  obtain ⟨rfl, hp⟩ := hp
  replace hst := hst.call1 hp
  clear hp
  refine AU rfl <| NL <| SQ <| SR <| MU rfl <| CN <| zak rfl rfl <| NL <| zab rfl (fun g1 => ?_) (fun g1 => ?_)
  ·refine SR <| MP rfl <| CN <| zaa zb4 rfl <| CN <| zae (v := .int .i64 _) ty3 rfl rfl (hst.cellL Q1 rfl) <| CN (zbD (v1 := Pp _ _) (v2 := .int .i64 _) (v3 := .int .i64 _) zec rfl rfl rfl rfl ((zbY _ _ _ _ _ _ _ e p _ _ _ (hst.hL _ Q0)).mono fun v w hp => ?_))
   obtain ⟨rfl, hp⟩ := hp
   replace hst := hst.call1 hp
   clear hp
   refine AU rfl <| AB rfl <| NL <| zai Tryz.func130 rfl (TP (v := .int .u32 _) rfl) (TP (v := .bool _) rfl) ?_
   replace hst := hst.pick (.cons .u0 .nil)
   exact .inr (.inr (.inl ⟨hk9, hd9, g1, rfl, hst.noD⟩))
  refine zaf <| SR <| MU rfl <| AU rfl <| AB rfl <| NL <| zai Tryz.func130 rfl (TP (v := .int .u32 _) rfl) (TP (v := .bool _) rfl) ?_
  replace hst := hst.pick (.cons .u0 .nil)
  exact .inr (.inr (.inr ⟨hk9, hd9, g1, rfl, hst.noD⟩))
theorem zsN (bq : Nat) (s : Tx) (ao : Option Addr) (cp : Nat) (l : List TokL) (a : Nat) (bound e p : Int) (w : World) (ha : a < l.length) (hB : (Res.row bq 130 [str s, .slice ao l.length cp, .int .i64 (a : Int), .int .u32 bound, .int .i64 e, .int .i64 p]).holds w) (hT : (Res.sl ao l.length cp 72 3 (l.flatMap zbW)).holds w) (hTA : Apart (Res.row bq 130 [str s, .slice ao l.length cp, .int .i64 (a : Int), .int .u32 bound, .int .i64 e, .int .i64 p]) (Res.sl ao l.length cp 72 3 (l.flatMap zbW))) (hl : s.length ≤ 1099511627776) (hll : l.length ≤ s.length) (hts : wsz l ≤ 7 * s.length) (hbd : 0 ≤ bound ∧ bound < 4294967296) (hpl : ∀ i, i < l.length → (l.getD i zaR).kind = 2 → ∃ m, zbn (l.getD i zaR).text = some m) : Ret Tryz.prog 173 #[.pointer (some ⟨bq, 0, none⟩)] w (fun v w' => (∃ (z1 z2 : Int) (z3 : Tx) (a' : Int), (zb9 105 (l.getD a zaR) bound).2 ≠ 0 ∧ v = .tuple #[.agg #[.int .u8 z1, .int .u32 z2, str z3], .bool false] ∧ St w (Res.row bq 130 [str s, .slice ao l.length cp, .int .i64 (a : Int), .int .u32 bound, .int .i64 e, .int .i64 p]).foot [Res.row bq 130 [str s, .slice ao l.length cp, .int .i64 (a' : Int), .int .u32 bound, .int .i64 (zb9 105 (l.getD a zaR) bound).2, .int .i64 ((l.getD a zaR).at_)]] [] w') ∨ ((zb9 105 (l.getD a zaR) bound).2 = 0 ∧ v = .tuple #[.agg #[.int .u8 (zb9 105 (l.getD a zaR) bound).1.kind, .int .u32 (zb9 105 (l.getD a zaR) bound).1.n, str (zb9 105 (l.getD a zaR) bound).1.s], .bool true] ∧ St w (Res.row bq 130 [str s, .slice ao l.length cp, .int .i64 (a : Int), .int .u32 bound, .int .i64 e, .int .i64 p]).foot [Res.row bq 130 [str s, .slice ao l.length cp, .int .i64 (a + 1 : Int), .int .u32 bound, .int .i64 e, .int .i64 p]] [] w')) := by
 refine zav (args := [.pointer (some ⟨bq, 0, none⟩)]) Tryz.func173 rfl rfl rfl ?_
 have hst : St w (Res.row bq 130 [str s, .slice ao l.length cp, .int .i64 (a : Int), .int .u32 bound, .int .i64 e, .int .i64 p]).foot [Res.row bq 130 [str s, .slice ao l.length cp, .int .i64 (a : Int), .int .u32 bound, .int .i64 e, .int .i64 p]] [Res.sl ao l.length cp 72 3 (l.flatMap zbW)] w := St.enter1 hB (by simp only [List.forall_mem_cons]; exact ⟨hT, fun _ h => absurd h List.not_mem_nil⟩) (by simp only [List.forall_mem_cons]; exact ⟨hTA, fun _ h => absurd h List.not_mem_nil⟩)
 refine SR <| CN <| Op1.alloc hst za9 fun w b2 hst => AB rfl <| NSR <| MP rfl ?_
 replace hst := hst.pick (.cons .u1 (.cons .u0 .nil))
 refine CN (Op1.call1 (v1 := Pp _ _) zxl rfl rfl ((zu4 _ _ _ _ l a _ _ _ _ (hst.hL _ Q0) (hst.hD _ Q0) (hst.sepD _ Q0 _ Q0) hl hll hts hbd hpl).mono fun v w hp => ?_))
 rcases hp with ⟨hk8, rfl, hp⟩ | ⟨hk8, hd8, rfl, hp⟩ | ⟨hk8, hd8, he8, rfl, hp⟩ | ⟨hk8, hd8, he8, rfl, hp⟩
 ·exfalso; omega
 ·replace hst := hst.call1 hp
  clear hp
  refine CN <| zad (v := .tuple #[.int .u32 _, .bool _]) rfl <| CN <| Ex (.int .u32 _) rfl rfl <| CN <| Ex (.bool _) rfl rfl <| AU rfl <| AB rfl <| NSR <| MU rfl <| CN (zag za9 zcW (.c (v := .int .u8 _) rfl (h := (.c (v := .int .u32 _) rfl (h := .nil)))) ?_)
  refine MB rfl <| CN (SO (v := zcy _ _ _) hst za9 rfl rfl .u1 fun w hst => ?_)
  refine AB rfl <| NL <| zai Tryz.func173 rfl (zal (vs := zcX _ _ _) rfl za9 rfl rfl (zac (n := 3) (hst.objL Q1) _ rfl)) (TP (v := .bool _) rfl) ?_
  replace hst := hst.pick (.cons .u0 .nil)
  rw [zeH (c := 105) (by decide) (show (l.getD a zaR).kind ≠ zd2 105 from hd8)]
  exact .inl ⟨_, _, _, _, (show (70 : Int) ≠ 0 by decide), rfl, hst.noD⟩
 ·replace hst := hst.call1 hp
  clear hp
  refine CN <| zad (v := .tuple #[.int .u32 _, .bool _]) rfl <| CN <| Ex (.int .u32 _) rfl rfl <| CN <| Ex (.bool _) rfl rfl <| AU rfl <| AB rfl <| NSR <| MU rfl <| CN (zag za9 zcW (.c (v := .int .u8 _) rfl (h := (.c (v := .int .u32 _) rfl (h := .nil)))) ?_)
  refine MB rfl <| CN (SO (v := zcy _ _ _) hst za9 rfl rfl .u1 fun w hst => ?_)
  refine AB rfl <| NL <| zai Tryz.func173 rfl (zal (vs := zcX _ _ _) rfl za9 rfl rfl (zac (n := 3) (hst.objL Q1) _ rfl)) (TP (v := .bool _) rfl) ?_
  replace hst := hst.pick (.cons .u0 .nil)
  rw [zjx hd8 he8]
  exact .inl ⟨_, _, _, _, (show (43 : Int) ≠ 0 by decide), rfl, hst.noD⟩
 ·replace hst := hst.call1 hp
  clear hp
  refine CN <| zad (v := .tuple #[.int .u32 _, .bool _]) rfl <| CN <| Ex (.int .u32 _) rfl rfl <| CN <| Ex (.bool _) rfl rfl <| AU rfl <| AB rfl <| NSR <| MU rfl <| CN (zag za9 zcW (.c (v := .int .u8 _) rfl (h := (.c (v := .int .u32 _) rfl (h := .nil)))) ?_)
  refine MB rfl <| CN (SO (v := zcy _ _ _) hst za9 rfl rfl .u1 fun w hst => ?_)
  refine AB rfl <| NL <| zai Tryz.func173 rfl (zal (vs := zcX _ _ _) rfl za9 rfl rfl (zac (n := 3) (hst.objL Q1) _ rfl)) (TP (v := .bool _) rfl) ?_
  replace hst := hst.pick (.cons .u0 .nil)
  rw [zmN hd8 he8]
  exact .inr ⟨rfl, rfl, hst.noD⟩
theorem zk3 (bq : Nat) (s : Tx) (ao : Option Addr) (cp : Nat) (l : List TokL) (a : Nat) (bound e p : Int) (w : World) (ha : a < l.length) (hB : (Res.row bq 130 [str s, .slice ao l.length cp, .int .i64 (a : Int), .int .u32 bound, .int .i64 e, .int .i64 p]).holds w) (hT : (Res.sl ao l.length cp 72 3 (l.flatMap zbW)).holds w) (hTA : Apart (Res.row bq 130 [str s, .slice ao l.length cp, .int .i64 (a : Int), .int .u32 bound, .int .i64 e, .int .i64 p]) (Res.sl ao l.length cp 72 3 (l.flatMap zbW))) (hl : s.length ≤ 1099511627776) (hll : l.length ≤ s.length) (hts : wsz l ≤ 7 * s.length) (hG : LxG.holds w) (hGA : Apart (Res.row bq 130 [str s, .slice ao l.length cp, .int .i64 (a : Int), .int .u32 bound, .int .i64 e, .int .i64 p]) LxG) : Ret Tryz.prog 174 #[.pointer (some ⟨bq, 0, none⟩)] w (fun v w' => (∃ (z1 z2 : Int) (z3 : Tx) (a' : Int), (zb9 110 (l.getD a zaR) bound).2 ≠ 0 ∧ v = .tuple #[.agg #[.int .u8 z1, .int .u32 z2, str z3], .bool false] ∧ St w (Res.row bq 130 [str s, .slice ao l.length cp, .int .i64 (a : Int), .int .u32 bound, .int .i64 e, .int .i64 p]).foot [Res.row bq 130 [str s, .slice ao l.length cp, .int .i64 (a' : Int), .int .u32 bound, .int .i64 (zb9 110 (l.getD a zaR) bound).2, .int .i64 ((l.getD a zaR).at_)]] [] w') ∨ ((zb9 110 (l.getD a zaR) bound).2 = 0 ∧ v = .tuple #[.agg #[.int .u8 (zb9 110 (l.getD a zaR) bound).1.kind, .int .u32 (zb9 110 (l.getD a zaR) bound).1.n, str (zb9 110 (l.getD a zaR) bound).1.s], .bool true] ∧ St w (Res.row bq 130 [str s, .slice ao l.length cp, .int .i64 (a : Int), .int .u32 bound, .int .i64 e, .int .i64 p]).foot [Res.row bq 130 [str s, .slice ao l.length cp, .int .i64 (a + 1 : Int), .int .u32 bound, .int .i64 e, .int .i64 p]] [] w')) := by
 refine zav (args := [.pointer (some ⟨bq, 0, none⟩)]) Tryz.func174 rfl rfl rfl ?_
 have hst : St w (Res.row bq 130 [str s, .slice ao l.length cp, .int .i64 (a : Int), .int .u32 bound, .int .i64 e, .int .i64 p]).foot [Res.row bq 130 [str s, .slice ao l.length cp, .int .i64 (a : Int), .int .u32 bound, .int .i64 e, .int .i64 p]] [Res.sl ao l.length cp 72 3 (l.flatMap zbW), LxG] w := St.enter1 hB (by simp only [List.forall_mem_cons]; exact ⟨hT, hG, fun _ h => absurd h List.not_mem_nil⟩) (by simp only [List.forall_mem_cons]; exact ⟨hTA, hGA, fun _ h => absurd h List.not_mem_nil⟩)
 refine SR <| CN <| Op1.alloc hst za9 fun w b2 hst => AB rfl <| NSR <| MP rfl ?_
 replace hst := hst.pick (.cons .u1 (.cons .u0 .nil))
 refine CN (Op1.call1 (v1 := Pp _ _) zq9 rfl rfl ((zf4 _ _ _ _ l a _ _ _ _ (hst.hL _ Q0) (hst.hD _ Q0) (hst.sepD _ Q0 _ Q0) hl hll hts (hst.hD _ Q1) (hst.sepD _ Q0 _ Q1)).mono fun v w hp => ?_))
 rcases hp with ⟨hk8, rfl, hp⟩ | ⟨hk8, hd8, rfl, hp⟩ | ⟨hk8, hd8, he8, rfl, hp⟩ | ⟨hk8, hd8, he8, rfl, hp⟩
 ·exfalso; omega
 ·replace hst := hst.call1 hp
  clear hp
  refine CN <| zad (v := .tuple #[.int .u32 _, .bool _]) rfl <| CN <| Ex (.int .u32 _) rfl rfl <| CN <| Ex (.bool _) rfl rfl <| AU rfl <| AB rfl <| NSR <| MU rfl <| CN (zag za9 zcW (.c (v := .int .u8 _) rfl (h := (.c (v := .int .u32 _) rfl (h := .nil)))) ?_)
  refine MB rfl <| CN (SO (v := zcy _ _ _) hst za9 rfl rfl .u1 fun w hst => ?_)
  refine AB rfl <| NL <| zai Tryz.func174 rfl (zal (vs := zcX _ _ _) rfl za9 rfl rfl (zac (n := 3) (hst.objL Q1) _ rfl)) (TP (v := .bool _) rfl) ?_
  replace hst := hst.pick (.cons .u0 .nil)
  rw [zeH (c := 110) (by decide) (show (l.getD a zaR).kind ≠ zd2 110 from hd8)]
  exact .inl ⟨_, _, _, _, (show (70 : Int) ≠ 0 by decide), rfl, hst.noD⟩
 ·replace hst := hst.call1 hp
  clear hp
  refine CN <| zad (v := .tuple #[.int .u32 _, .bool _]) rfl <| CN <| Ex (.int .u32 _) rfl rfl <| CN <| Ex (.bool _) rfl rfl <| AU rfl <| AB rfl <| NSR <| MU rfl <| CN (zag za9 zcW (.c (v := .int .u8 _) rfl (h := (.c (v := .int .u32 _) rfl (h := .nil)))) ?_)
  refine MB rfl <| CN (SO (v := zcy _ _ _) hst za9 rfl rfl .u1 fun w hst => ?_)
  refine AB rfl <| NL <| zai Tryz.func174 rfl (zal (vs := zcX _ _ _) rfl za9 rfl rfl (zac (n := 3) (hst.objL Q1) _ rfl)) (TP (v := .bool _) rfl) ?_
  replace hst := hst.pick (.cons .u0 .nil)
  rw [zox hd8 he8]
  exact .inl ⟨_, _, _, _, he8, rfl, hst.noD⟩
 ·replace hst := hst.call1 hp
  clear hp
  refine CN <| zad (v := .tuple #[.int .u32 _, .bool _]) rfl <| CN <| Ex (.int .u32 _) rfl rfl <| CN <| Ex (.bool _) rfl rfl <| AU rfl <| AB rfl <| NSR <| MU rfl <| CN (zag za9 zcW (.c (v := .int .u8 _) rfl (h := (.c (v := .int .u32 _) rfl (h := .nil)))) ?_)
  refine MB rfl <| CN (SO (v := zcy _ _ _) hst za9 rfl rfl .u1 fun w hst => ?_)
  refine AB rfl <| NL <| zai Tryz.func174 rfl (zal (vs := zcX _ _ _) rfl za9 rfl rfl (zac (n := 3) (hst.objL Q1) _ rfl)) (TP (v := .bool _) rfl) ?_
  replace hst := hst.pick (.cons .u0 .nil)
  rw [zrn hd8 he8]
  exact .inr ⟨rfl, rfl, hst.noD⟩
end Go.SK
namespace Go.SK
open Go Go.Proofs
theorem ent209 : zaN Tryz.prog 209 := ⟨Tryz.f209, _, Tryz.func209, Kr, rfl⟩
theorem zvs : TyF Tryz.prog 124 (.pointer 130) 1 8 [.pointer none] := zbK Kr Kr
end Go.SK
namespace Go.SK
open Go Go.Proofs
open Go.RowKit
theorem zoX (bq : Nat) (s : Tx) (ao : Option Addr) (cp : Nat) (l : List TokL) (a : Nat) (bound e p : Int) (w : World) (ha : a < l.length) (hB : (Res.row bq 130 [str s, .slice ao l.length cp, .int .i64 (a : Int), .int .u32 bound, .int .i64 e, .int .i64 p]).holds w) (hT : (Res.sl ao l.length cp 72 3 (l.flatMap zbW)).holds w) (hTA : Apart (Res.row bq 130 [str s, .slice ao l.length cp, .int .i64 (a : Int), .int .u32 bound, .int .i64 e, .int .i64 p]) (Res.sl ao l.length cp 72 3 (l.flatMap zbW))) (hl : s.length ≤ 1099511627776) (hll : l.length ≤ s.length) (hts : wsz l ≤ 7 * s.length) : Ret Tryz.prog 175 #[.pointer (some ⟨bq, 0, none⟩)] w (fun v w' => (∃ (z1 z2 : Int) (z3 : Tx) (a' : Int), (zb9 115 (l.getD a zaR) bound).2 ≠ 0 ∧ v = .tuple #[.agg #[.int .u8 z1, .int .u32 z2, str z3], .bool false] ∧ St w (Res.row bq 130 [str s, .slice ao l.length cp, .int .i64 (a : Int), .int .u32 bound, .int .i64 e, .int .i64 p]).foot [Res.row bq 130 [str s, .slice ao l.length cp, .int .i64 (a' : Int), .int .u32 bound, .int .i64 (zb9 115 (l.getD a zaR) bound).2, .int .i64 ((l.getD a zaR).at_)]] [] w') ∨ ((zb9 115 (l.getD a zaR) bound).2 = 0 ∧ v = .tuple #[.agg #[.int .u8 (zb9 115 (l.getD a zaR) bound).1.kind, .int .u32 (zb9 115 (l.getD a zaR) bound).1.n, str (zb9 115 (l.getD a zaR) bound).1.s], .bool true] ∧ St w (Res.row bq 130 [str s, .slice ao l.length cp, .int .i64 (a : Int), .int .u32 bound, .int .i64 e, .int .i64 p]).foot [Res.row bq 130 [str s, .slice ao l.length cp, .int .i64 (a + 1 : Int), .int .u32 bound, .int .i64 e, .int .i64 p]] [] w')) := by
 refine zav (args := [.pointer (some ⟨bq, 0, none⟩)]) Tryz.func175 rfl rfl rfl ?_
 have hst : St w (Res.row bq 130 [str s, .slice ao l.length cp, .int .i64 (a : Int), .int .u32 bound, .int .i64 e, .int .i64 p]).foot [Res.row bq 130 [str s, .slice ao l.length cp, .int .i64 (a : Int), .int .u32 bound, .int .i64 e, .int .i64 p]] [Res.sl ao l.length cp 72 3 (l.flatMap zbW)] w := St.enter1 hB (by simp only [List.forall_mem_cons]; exact ⟨hT, fun _ h => absurd h List.not_mem_nil⟩) (by simp only [List.forall_mem_cons]; exact ⟨hTA, fun _ h => absurd h List.not_mem_nil⟩)
 refine SR <| CN <| Op1.alloc hst za9 fun w b2 hst => AB rfl <| NSR <| MP rfl ?_
 replace hst := hst.pick (.cons .u1 (.cons .u0 .nil))
 refine CN (zaz (v1 := Pp _ _) (v2 := .int .u8 _) zko rfl rfl rfl ((zeN _ _ _ _ l a _ _ _ 4 _ (hst.hL _ Q0) (hst.hD _ Q0) (hst.sepD _ Q0 _ Q0) hl hll hts).mono fun v w hp => ?_))
 rcases hp with ⟨hk9, rfl, hp⟩ | ⟨hk9, hd9, rfl, hp⟩ | ⟨hk9, hd9, rfl, hp⟩
 ·exfalso; omega
 ·replace hst := hst.call1 hp
  clear hp
  refine CN <| zad (v := .tuple #[zbO _ _ _, .bool _]) rfl <| CN <| Ex (zbO _ _ _) rfl rfl <| CN <| Ex (.bool _) rfl rfl <| CN <| Op1.alloc hst zbd fun w b4 hst => CN (SO (v := zbO _ _ _) hst zbd rfl rfl .u0 fun w hst => ?_)
  refine AB rfl <| NL <| SQ <| SR <| CN <| zaa zbl rfl <| CN <| zae (v := str _) ty9 rfl rfl (hst.cellL Q0 rfl) <| CN <| zaL (rest := []) ty9 rfl <| MI rfl <| NL <| zao <| zaV <| zaU [(0, Pp _ _), (2, Pp _ _), (4, Pp _ _), (5, .bool _), (14, .int .i64 _)] E5 (fun (qq : Nat) => [(15, .int .i64 (qq : Int))]) (fun (qq : Nat) => []) (fun (qq : Nat) => qq = 0) (fun (qq : Nat) => 0) (0) hst rfl ⟨rfl, trivial⟩ ?_
  intro i f w hst hJ ih1
  replace hst : St _ _ ([] ++ [_, _, _]) _ _ := hst
  replace hJ : i = 0 := hJ
  refine za2 (sl := [(15, .int .i64 (i : Int))]) ⟨rfl, trivial⟩ <| SR <| CN <| zaS rfl rfl <| NL <| SQ <| zab rfl (fun g2 => ?_) (fun g2 => ?_)
  ·exfalso
   first | omega | (simp at g2; done) | (simp at g2; omega)
  refine zaJ (id := 0) rfl <| SR <| CN <| zaa zbl rfl <| CN <| zae (v := str _) ty9 rfl rfl (hst.cellL Q0 rfl) <| CN (zag za9 zcW (.c (v := .int .u8 _) rfl (h := (.c (v := str _) rfl (h := .nil)))) ?_)
  refine MB rfl <| CN (SO (v := zcy _ _ _) hst za9 rfl rfl .u2 fun w hst => ?_)
  refine AB rfl <| NL <| zai Tryz.func175 rfl (zal (vs := zcX _ _ _) rfl za9 rfl rfl (zac (n := 3) (hst.objL Q2) _ rfl)) (TP (v := .bool _) rfl) ?_
  replace hst := hst.pick (.cons .u1 .nil)
  rw [zeH (c := 115) (by decide) (show (l.getD a zaR).kind ≠ zd2 115 from hd9)]
  exact .inl ⟨_, _, _, _, (show (70 : Int) ≠ 0 by decide), rfl, hst.noD⟩
 ·replace hst := hst.call1 hp
  clear hp
  refine CN <| zad (v := .tuple #[zbO _ _ _, .bool _]) rfl <| CN <| Ex (zbO _ _ _) rfl rfl <| CN <| Ex (.bool _) rfl rfl <| CN <| Op1.alloc hst zbd fun w b4 hst => CN (SO (v := zbO _ _ _) hst zbd rfl rfl .u0 fun w hst => ?_)
  refine AB rfl <| NL <| SQ <| SR <| CN <| zaa zbl rfl <| CN <| zae (v := str _) ty9 rfl rfl (hst.cellL Q0 rfl) <| CN <| zaL (rest := []) ty9 rfl <| MI rfl <| NL <| zao <| zaV <| zaU [(0, Pp _ _), (2, Pp _ _), (4, Pp _ _), (5, .bool _), (14, .int .i64 _)] E5 (fun (qq : Nat) => [(15, .int .i64 (qq : Int))]) (fun (qq : Nat) => []) (fun (qq : Nat) => qq ≤ (l.getD a zaR).text.length ∧ ∀ j, j < qq → (l.getD a zaR).text.getD j 0 ≠ 0) (fun (qq : Nat) => (l.getD a zaR).text.length - qq) (0) hst ⟨Nat.zero_le _, fun j hj => absurd hj (Nat.not_lt_zero _)⟩ ⟨rfl, trivial⟩ ?_
  intro i f w hst hJ ih3
  replace hst : St _ _ ([] ++ [_, _, _]) _ _ := hst
  replace hJ : i ≤ (l.getD a zaR).text.length ∧ ∀ j, j < i → (l.getD a zaR).text.getD j 0 ≠ 0 := hJ
  refine za2 (sl := [(15, .int .i64 (i : Int))]) ⟨rfl, trivial⟩ ?_
  have hj1 := hJ.1
  have hidx : ((l.getD a zaR).text.getD ((i : Int).toNat) 0).toNat = ((l.getD a zaR).text.getD i 0).toNat := rfl
  have hwm := zge (l := l) (i := a) Om
  refine SR <| CN <| zaS rfl rfl <| NL <| SQ <| zab rfl (fun g4 => ?_) (fun g4 => ?_)
  ·refine zaf <| SQ <| zao <| SR <| MI rfl <| AI rfl <| NSR <| CN <| zaa zbl rfl <| CN <| zae (v := str _) ty9 rfl rfl (hst.cellL Q0 rfl) <| MI rfl <| CN <| zaH ty9 rfl rfl Om Om <| CN (zak rfl rfl ?_)
   refine NL <| zab rfl (fun g5 => ?_) (fun g5 => ?_)
   ·refine SR <| CN (zag za9 zcW .nil ?_)
    refine MP rfl <| CN <| zaa zb4 rfl <| CN (zae (v := .int .i64 _) ty3 rfl rfl (hst.cellL Q0 rfl) ?_)
    replace hst := hst.pick (.cons .u1 (.cons .u0 (.cons .u0 .nil)))
    refine CN (zbD (v1 := Pp _ _) (v2 := .int .i64 _) (v3 := .int .i64 _) zec rfl rfl rfl rfl ((zbY _ _ _ _ _ _ _ e p _ _ _ (hst.hL _ Q0)).mono fun v w hp => ?_))
    obtain ⟨rfl, hp⟩ := hp
    replace hst := hst.call1 hp
    clear hp
    refine CN (SO (v := zcy _ _ _) hst za9 rfl rfl .u2 fun w hst => ?_)
    refine AB rfl <| NL <| zai Tryz.func175 rfl (zal (vs := zcX _ _ _) rfl za9 rfl rfl (zac (n := 3) (hst.objL Q2) _ rfl)) (TP (v := .bool _) rfl) ?_
    replace hst := hst.pick (.cons .u0 .nil)
    have hz : zbS (l.getD a zaR).text = i := zjB (by omega) (UInt8.toNat_inj.1 (by rw [← hidx]; show _ = 0; omega)) hJ.2
    rw [zow hd9 (by rw [hz]; omega)]
    exact .inl ⟨_, _, _, _, (show (13 : Int) ≠ 0 by decide), rfl, hst.noD⟩
   refine zaf <| zam <| RG <| CN <| zas rfl rfl rfl zbe <| MI rfl <| NL <| zay ?_
   exact ih3 (i + 1) _ w ((by omega)) hst (⟨by omega, zkd hJ.2 (fun e => g5 (by rw [hidx, e]; rfl))⟩) E5 ⟨(Vi (by omega)), trivial⟩
  refine zaJ (id := 0) rfl <| SR <| CN <| zaa zbl rfl <| CN <| zae (v := str _) ty9 rfl rfl (hst.cellL Q0 rfl) <| CN (zag za9 zcW (.c (v := .int .u8 _) rfl (h := (.c (v := str _) rfl (h := .nil)))) ?_)
  refine MB rfl <| CN (SO (v := zcy _ _ _) hst za9 rfl rfl .u2 fun w hst => ?_)
  refine AB rfl <| NL <| zai Tryz.func175 rfl (zal (vs := zcX _ _ _) rfl za9 rfl rfl (zac (n := 3) (hst.objL Q2) _ rfl)) (TP (v := .bool _) rfl) ?_
  replace hst := hst.pick (.cons .u1 .nil)
  have hz : zbS (l.getD a zaR).text = (l.getD a zaR).text.length := zfg (fun q hq => hJ.2 q Om)
  rw [zrm hd9 hz]
  exact .inr ⟨rfl, rfl, hst.noD⟩
theorem zoZ (bq : Nat) (s : Tx) (ao : Option Addr) (cp : Nat) (l : List TokL) (a : Nat) (bound e p : Int) (c : Int) (hc : 0 ≤ c ∧ c ≤ 255) (hc0 : c ≠ 0) (hc1 : c ≠ 105) (hc2 : c ≠ 110) (hc3 : c ≠ 115) (w : World) (ha : a < l.length) (hB : (Res.row bq 130 [str s, .slice ao l.length cp, .int .i64 (a : Int), .int .u32 bound, .int .i64 e, .int .i64 p]).holds w) (hT : (Res.sl ao l.length cp 72 3 (l.flatMap zbW)).holds w) (hTA : Apart (Res.row bq 130 [str s, .slice ao l.length cp, .int .i64 (a : Int), .int .u32 bound, .int .i64 e, .int .i64 p]) (Res.sl ao l.length cp 72 3 (l.flatMap zbW))) (hl : s.length ≤ 1099511627776) (hll : l.length ≤ s.length) (hts : wsz l ≤ 7 * s.length) : Ret Tryz.prog 177 #[.pointer (some ⟨bq, 0, none⟩), .int .u8 c] w (fun v w' => (∃ (z1 z2 : Int) (z3 : Tx) (a' : Int), (zb9 c (l.getD a zaR) bound).2 ≠ 0 ∧ v = .tuple #[.agg #[.int .u8 z1, .int .u32 z2, str z3], .bool false] ∧ St w (Res.row bq 130 [str s, .slice ao l.length cp, .int .i64 (a : Int), .int .u32 bound, .int .i64 e, .int .i64 p]).foot [Res.row bq 130 [str s, .slice ao l.length cp, .int .i64 (a' : Int), .int .u32 bound, .int .i64 (zb9 c (l.getD a zaR) bound).2, .int .i64 ((l.getD a zaR).at_)]] [] w') ∨ ((zb9 c (l.getD a zaR) bound).2 = 0 ∧ v = .tuple #[.agg #[.int .u8 (zb9 c (l.getD a zaR) bound).1.kind, .int .u32 (zb9 c (l.getD a zaR) bound).1.n, str (zb9 c (l.getD a zaR) bound).1.s], .bool true] ∧ St w (Res.row bq 130 [str s, .slice ao l.length cp, .int .i64 (a : Int), .int .u32 bound, .int .i64 e, .int .i64 p]).foot [Res.row bq 130 [str s, .slice ao l.length cp, .int .i64 (a + 1 : Int), .int .u32 bound, .int .i64 e, .int .i64 p]] [] w')) := by
 refine zav (args := [.pointer (some ⟨bq, 0, none⟩), .int .u8 c]) Tryz.func177 rfl rfl rfl ?_
 have hst : St w (Res.row bq 130 [str s, .slice ao l.length cp, .int .i64 (a : Int), .int .u32 bound, .int .i64 e, .int .i64 p]).foot [Res.row bq 130 [str s, .slice ao l.length cp, .int .i64 (a : Int), .int .u32 bound, .int .i64 e, .int .i64 p]] [Res.sl ao l.length cp 72 3 (l.flatMap zbW)] w := St.enter1 hB (by simp only [List.forall_mem_cons]; exact ⟨hT, fun _ h => absurd h List.not_mem_nil⟩) (by simp only [List.forall_mem_cons]; exact ⟨hTA, fun _ h => absurd h List.not_mem_nil⟩)
 refine SR <| CN <| Op1.alloc hst za9 fun w b4 hst => AB rfl <| NSR <| MP rfl ?_
 replace hst := hst.pick (.cons .u1 (.cons .u0 .nil))
 refine CN (zaz (v1 := Pp _ _) (v2 := .int .u8 _) zko rfl rfl rfl ((zeN _ _ _ _ l a _ _ _ 1 _ (hst.hL _ Q0) (hst.hD _ Q0) (hst.sepD _ Q0 _ Q0) hl hll hts).mono fun v w hp => ?_))
 rcases hp with ⟨hk12, rfl, hp⟩ | ⟨hk12, hd12, rfl, hp⟩ | ⟨hk12, hd12, rfl, hp⟩
 ·exfalso; omega
 ·replace hst := hst.call1 hp
  clear hp
  refine CN <| zad (v := .tuple #[zbO _ _ _, .bool _]) rfl <| CN <| Ex (zbO _ _ _) rfl rfl <| CN <| Ex (.bool _) rfl rfl <| CN <| Op1.alloc hst zbd fun w b6 hst => CN (SO (v := zbO _ _ _) hst zbd rfl rfl .u0 fun w hst => ?_)
  refine AB rfl <| NL <| SQ <| SR <| MB rfl <| CN <| zaZ rfl <| NL <| zax (Vb (congrArg not (rfl : false = _))) <| SR <| CN (zag za9 zcW .nil ?_)
  refine CN (SO (v := zcy _ _ _) hst za9 rfl rfl .u2 fun w hst => ?_)
  refine AB rfl <| NL <| zai Tryz.func177 rfl (zal (vs := zcX _ _ _) rfl za9 rfl rfl (zac (n := 3) (hst.objL Q2) _ rfl)) (TP (v := .bool _) rfl) ?_
  replace hst := hst.pick (.cons .u1 .nil)
  rw [zeH hc0 (by rw [zfw hc1 hc2 hc3]; exact hd12)]
  exact .inl ⟨_, _, _, _, (show (70 : Int) ≠ 0 by decide), rfl, hst.noD⟩
 ·replace hst := hst.call1 hp
  clear hp
  refine CN <| zad (v := .tuple #[zbO _ _ _, .bool _]) rfl <| CN <| Ex (zbO _ _ _) rfl rfl <| CN <| Ex (.bool _) rfl rfl <| CN <| Op1.alloc hst zbd fun w b6 hst => CN (SO (v := zbO _ _ _) hst zbd rfl rfl .u0 fun w hst => ?_)
  refine AB rfl <| NL <| SQ <| SR <| MB rfl <| CN <| zaZ rfl <| NL <| zat (Vb (congrArg not (rfl : true = _))) <| zaf <| SR <| MC rfl <| CN <| zaa zbl rfl <| CN (zae (v := str _) ty9 rfl rfl (hst.cellL Q0 rfl) ?_)
  refine CN <| zaz (v1 := .int .u8 _) (v2 := str _) ent209 rfl rfl rfl <| Ret.det (zk2 c (l.getD a zaR).text hc.1 hc.2 _) hst fun w hst => CN <| zad (v := .tuple #[.int .u32 _, .bool _]) rfl <| CN <| Ex (.int .u32 _) rfl rfl <| CN <| Ex (.bool _) rfl rfl <| AU rfl <| AB rfl <| NL <| zaj [(0, Pp _ _), (4, Pp _ _), (6, Pp _ _), (8, .int .u32 _), (9, .bool _)] E5 fun f => SQ <| SR <| MB rfl <| CN <| zaZ rfl <| NL <| zaA rfl (fun g1 => ?_) (fun g1 => ?_)
  ·refine SR <| CN (zag za9 zcW .nil ?_)
   refine MP rfl <| CN <| zaa zb4 rfl <| CN (zae (v := .int .i64 _) ty3 rfl rfl (hst.cellL Q0 rfl) ?_)
   replace hst := hst.pick (.cons .u1 (.cons .u0 (.cons .u0 .nil)))
   refine CN (zbD (v1 := Pp _ _) (v2 := .int .i64 _) (v3 := .int .i64 _) zec rfl rfl rfl rfl ((zbY _ _ _ _ _ _ _ e p _ _ _ (hst.hL _ Q0)).mono fun v w hp => ?_))
   obtain ⟨rfl, hp⟩ := hp
   replace hst := hst.call1 hp
   clear hp
   refine CN (SO (v := zcy _ _ _) hst za9 rfl rfl .u2 fun w hst => ?_)
   refine AB rfl <| NL <| zai Tryz.func177 rfl (zal (vs := zcX _ _ _) rfl za9 rfl rfl (zac (n := 3) (hst.objL Q2) _ rfl)) (TP (v := .bool _) rfl) ?_
   replace hst := hst.pick (.cons .u0 .nil)
   rw [zlM hc0 hc1 hc2 hc3 hd12 (by simpa using g1)]
   exact .inl ⟨_, _, _, _, (show (71 : Int) ≠ 0 by decide), rfl, hst.noD⟩
  refine zaf <| SR <| MU rfl <| CN (zag za9 zcW (.c (v := .int .u8 _) rfl (h := (.c (v := .int .u32 _) rfl (h := .nil)))) ?_)
  refine CN (SO (v := zcy _ _ _) hst za9 rfl rfl .u2 fun w hst => ?_)
  refine AB rfl <| NL <| zai Tryz.func177 rfl (zal (vs := zcX _ _ _) rfl za9 rfl rfl (zac (n := 3) (hst.objL Q2) _ rfl)) (TP (v := .bool _) rfl) ?_
  replace hst := hst.pick (.cons .u1 .nil)
  rw [zoz hc0 hc1 hc2 hc3 hd12 (by simpa using g1)]
  exact .inr ⟨rfl, rfl, hst.noD⟩
theorem zu6 (bq : Nat) (c : Int) (w : World) : Ret Tryz.prog 132 #[.pointer (some ⟨bq, 0, none⟩), .int .u8 c] w (fun v w' => (c = 105 ∧ v = .func (.func 173) #[.pointer (some ⟨bq, 0, none⟩)] #[] ∧ St w NoM [] [] w') ∨ (c = 110 ∧ v = .func (.func 174) #[.pointer (some ⟨bq, 0, none⟩)] #[] ∧ St w NoM [] [] w') ∨ (c = 115 ∧ v = .func (.func 175) #[.pointer (some ⟨bq, 0, none⟩)] #[] ∧ St w NoM [] [] w') ∨ (c ≠ 105 ∧ c ≠ 110 ∧ c ≠ 115 ∧ ∃ b2 b3, v = .func (.func 176) #[] #[.pointer (some ⟨b2, 0, none⟩), .pointer (some ⟨b3, 0, none⟩)] ∧ St w NoM [Res.row b2 124 [.pointer (some ⟨bq, 0, none⟩)], Res.row b3 5 [.int .u8 c]] [] w')) := by
 refine zav (args := [.pointer (some ⟨bq, 0, none⟩), .int .u8 c]) Tryz.func132 rfl rfl rfl ?_
 have hst := St.init w
 refine SR <| CN <| zbi (v := Pp _ _) hst rfl rfl fun w b2 hst => CN <| zbi (v := .int .u8 _) hst rfl rfl fun w b3 hst => CN <| Op1.assign (v := _) rfl <| NL <| SQ <| SR <| CN <| zae (v := .int .u8 _) ty5 rfl rfl (hst.cellL Q0 rfl) <| NL <| zao <| SR <| CN (zak rfl rfl ?_)
 refine AB rfl <| NL <| zab rfl (fun g1 => ?_) (fun g1 => ?_)
 ·refine SR <| CN <| zae (v := .pointer _) zvs rfl rfl (hst.cellL Q1 rfl) <| CN <| zce <| CN <| Op1.assign (v := .func _ _ _) rfl <| NL <| zah Tryz.func132 rfl (TP (v := .func _ _ _) rfl) ?_
  exact .inl ⟨by omega, rfl, hst.pure⟩
 refine SR <| CN <| zak rfl rfl <| AB rfl <| NL <| zab rfl (fun g2 => ?_) (fun g2 => ?_)
 ·refine SR <| CN <| zae (v := .pointer _) zvs rfl rfl (hst.cellL Q1 rfl) <| CN <| zce <| CN <| Op1.assign (v := .func _ _ _) rfl <| NL <| zah Tryz.func132 rfl (TP (v := .func _ _ _) rfl) ?_
  exact .inr (.inl ⟨by omega, rfl, hst.pure⟩)
 refine SR <| CN <| zak rfl rfl <| AB rfl <| NL <| zab rfl (fun g3 => ?_) (fun g3 => ?_)
 ·refine SR <| CN <| zae (v := .pointer _) zvs rfl rfl (hst.cellL Q1 rfl) <| CN <| zce <| CN <| Op1.assign (v := .func _ _ _) rfl <| NL <| zah Tryz.func132 rfl (TP (v := .func _ _ _) rfl) ?_
  exact .inr (.inr (.inl ⟨by omega, rfl, hst.pure⟩))
 refine zaf <| zam <| SR <| CN <| zce <| CN <| Op1.assign (v := .func _ _ _) rfl <| NL <| zah Tryz.func132 rfl (TP (v := .func _ _ _) rfl) ?_
 replace hst := hst.pick (.cons .u1 (.cons .u0 .nil))
 exact .inr (.inr (.inr ⟨by omega, by omega, by omega, _, _, rfl, hst⟩))
end Go.SK
namespace Go.SK
open Go Go.Proofs
theorem ent177 : zaN Tryz.prog 177 := ⟨Tryz.f177, _, Tryz.func177, Kr, rfl⟩
theorem ent176 : zaN Tryz.prog 176 := ⟨Tryz.f176, _, Tryz.func176, Kr, rfl⟩
theorem ent173 : zaN Tryz.prog 173 := ⟨Tryz.f173, _, Tryz.func173, Kr, rfl⟩
theorem ent174 : zaN Tryz.prog 174 := ⟨Tryz.f174, _, Tryz.func174, Kr, rfl⟩
theorem ent175 : zaN Tryz.prog 175 := ⟨Tryz.f175, _, Tryz.func175, Kr, rfl⟩
end Go.SK
namespace Go.SK
open Go Go.Proofs
open Go.RowKit
theorem zsP (bq : Nat) (s : Tx) (ao : Option Addr) (cp : Nat) (l : List TokL) (a : Nat) (bound e p : Int) (c : Int) (hc : 0 ≤ c ∧ c ≤ 255) (hc0 : c ≠ 0) (hc1 : c ≠ 105) (hc2 : c ≠ 110) (hc3 : c ≠ 115) (c2 c3 : Nat) (w : World) (ha : a < l.length) (hB : (Res.row bq 130 [str s, .slice ao l.length cp, .int .i64 (a : Int), .int .u32 bound, .int .i64 e, .int .i64 p]).holds w) (hT : (Res.sl ao l.length cp 72 3 (l.flatMap zbW)).holds w) (hTA : Apart (Res.row bq 130 [str s, .slice ao l.length cp, .int .i64 (a : Int), .int .u32 bound, .int .i64 e, .int .i64 p]) (Res.sl ao l.length cp 72 3 (l.flatMap zbW))) (hl : s.length ≤ 1099511627776) (hll : l.length ≤ s.length) (hts : wsz l ≤ 7 * s.length) (h2 : (Res.row c2 124 [.pointer (some ⟨bq, 0, none⟩)]).holds w) (h3 : (Res.row c3 5 [.int .u8 c]).holds w) (ha2 : Apart (Res.row bq 130 [str s, .slice ao l.length cp, .int .i64 (a : Int), .int .u32 bound, .int .i64 e, .int .i64 p]) (Res.row c2 124 [.pointer (some ⟨bq, 0, none⟩)])) (ha3 : Apart (Res.row bq 130 [str s, .slice ao l.length cp, .int .i64 (a : Int), .int .u32 bound, .int .i64 e, .int .i64 p]) (Res.row c3 5 [.int .u8 c])) : Ret Tryz.prog 176 #[.pointer (some ⟨c2, 0, none⟩), .pointer (some ⟨c3, 0, none⟩)] w (fun v w' => (∃ (z1 z2 : Int) (z3 : Tx) (a' : Int), (zb9 c (l.getD a zaR) bound).2 ≠ 0 ∧ v = .tuple #[.agg #[.int .u8 z1, .int .u32 z2, str z3], .bool false] ∧ St w (Res.row bq 130 [str s, .slice ao l.length cp, .int .i64 (a : Int), .int .u32 bound, .int .i64 e, .int .i64 p]).foot [Res.row bq 130 [str s, .slice ao l.length cp, .int .i64 (a' : Int), .int .u32 bound, .int .i64 (zb9 c (l.getD a zaR) bound).2, .int .i64 ((l.getD a zaR).at_)]] [] w') ∨ ((zb9 c (l.getD a zaR) bound).2 = 0 ∧ v = .tuple #[.agg #[.int .u8 (zb9 c (l.getD a zaR) bound).1.kind, .int .u32 (zb9 c (l.getD a zaR) bound).1.n, str (zb9 c (l.getD a zaR) bound).1.s], .bool true] ∧ St w (Res.row bq 130 [str s, .slice ao l.length cp, .int .i64 (a : Int), .int .u32 bound, .int .i64 e, .int .i64 p]).foot [Res.row bq 130 [str s, .slice ao l.length cp, .int .i64 (a + 1 : Int), .int .u32 bound, .int .i64 e, .int .i64 p]] [] w')) := by
 refine zav (args := [.pointer (some ⟨c2, 0, none⟩), .pointer (some ⟨c3, 0, none⟩)]) Tryz.func176 rfl rfl rfl ?_
 have hst : St w (Res.row bq 130 [str s, .slice ao l.length cp, .int .i64 (a : Int), .int .u32 bound, .int .i64 e, .int .i64 p]).foot [Res.row bq 130 [str s, .slice ao l.length cp, .int .i64 (a : Int), .int .u32 bound, .int .i64 e, .int .i64 p]] [Res.sl ao l.length cp 72 3 (l.flatMap zbW), Res.row c2 124 [.pointer (some ⟨bq, 0, none⟩)], Res.row c3 5 [.int .u8 c]] w := St.enter1 hB (by simp only [List.forall_mem_cons]; exact ⟨hT, h2, h3, fun _ h => absurd h List.not_mem_nil⟩) (by simp only [List.forall_mem_cons]; exact ⟨hTA, ha2, ha3, fun _ h => absurd h List.not_mem_nil⟩)
 refine SR <| CN <| Op1.alloc hst za9 fun w b2 hst => AB rfl <| NSR <| CN <| zae (v := Pp _ _) zvs rfl rfl (hst.cellD Q1 rfl) <| CN (zae (v := .int .u8 _) ty5 rfl rfl (hst.cellD Q2 rfl) ?_)
 replace hst := hst.pick (.cons .u1 (.cons .u0 .nil))
 refine CN (zaz (v1 := Pp _ _) (v2 := .int .u8 _) ent177 rfl rfl rfl ((zoZ _ _ _ _ l a _ _ _ c hc hc0 hc1 hc2 hc3 _ ha (hst.hL _ Q0) (hst.hD _ Q0) (hst.sepD _ Q0 _ Q0) hl hll hts).mono fun v w hp => ?_))
 rcases hp with ⟨z1, z2, z3, a2, hne, rfl, hp⟩ | ⟨hz, rfl, hp⟩
 ·replace hst := hst.call1 hp
  clear hp
  refine CN <| Ex (zcy _ _ _) rfl rfl <| CN <| Ex (.bool _) rfl rfl <| CN (SO (v := zcy _ _ _) hst za9 rfl rfl .u1 fun w hst => ?_)
  refine AB rfl <| NL <| zai Tryz.func176 rfl (zal (vs := zcX _ _ _) rfl za9 rfl rfl (zac (n := 3) (hst.objL Q1) _ rfl)) (TP (v := .bool _) rfl) ?_
  replace hst := hst.pick (.cons .u0 .nil)
  exact .inl ⟨_, _, _, _, hne, rfl, hst.noD⟩
 ·replace hst := hst.call1 hp
  clear hp
  refine CN <| Ex (zcy _ _ _) rfl rfl <| CN <| Ex (.bool _) rfl rfl <| CN (SO (v := zcy _ _ _) hst za9 rfl rfl .u1 fun w hst => ?_)
  refine AB rfl <| NL <| zai Tryz.func176 rfl (zal (vs := zcX _ _ _) rfl za9 rfl rfl (zac (n := 3) (hst.objL Q1) _ rfl)) (TP (v := .bool _) rfl) ?_
  replace hst := hst.pick (.cons .u0 .nil)
  exact .inr ⟨hz, rfl, hst.noD⟩
theorem zsO (bq : Nat) (s : Tx) (ao : Option Addr) (cp : Nat) (l : List TokL) (a : Nat) (bound e p : Int) (c : Int) (hc : 0 ≤ c ∧ c ≤ 255) (hc0 : c ≠ 0) (w : World) (ha : a < l.length) (hl : s.length ≤ 1099511627776) (hll : l.length ≤ s.length) (hts : wsz l ≤ 7 * s.length) (hbd : 0 ≤ bound ∧ bound < 4294967296) (hpl : ∀ i, i < l.length → (l.getD i zaR).kind = 2 → ∃ m, zbn (l.getD i zaR).text = some m) : Ret Tryz.prog 132 #[.pointer (some ⟨bq, 0, none⟩), .int .u8 c] w (fun v w' => ∃ fn fi ca R, v = .func fn fi ca ∧ St w NoM [R] [] w' ∧ ∀ w1, (Res.row bq 130 [str s, .slice ao l.length cp, .int .i64 (a : Int), .int .u32 bound, .int .i64 e, .int .i64 p]).holds w1 → (Res.sl ao l.length cp 72 3 (l.flatMap zbW)).holds w1 → Apart (Res.row bq 130 [str s, .slice ao l.length cp, .int .i64 (a : Int), .int .u32 bound, .int .i64 e, .int .i64 p]) (Res.sl ao l.length cp 72 3 (l.flatMap zbW)) → LxG.holds w1 → Apart (Res.row bq 130 [str s, .slice ao l.length cp, .int .i64 (a : Int), .int .u32 bound, .int .i64 e, .int .i64 p]) LxG → R.holds w1 → Apart (Res.row bq 130 [str s, .slice ao l.length cp, .int .i64 (a : Int), .int .u32 bound, .int .i64 e, .int .i64 p]) R → CallV Tryz.prog (.func fn fi ca) [] w1 (fun v w' => (∃ (z1 z2 : Int) (z3 : Tx) (a' : Int), (zb9 c (l.getD a zaR) bound).2 ≠ 0 ∧ v = .tuple #[.agg #[.int .u8 z1, .int .u32 z2, str z3], .bool false] ∧ St w1 (Res.row bq 130 [str s, .slice ao l.length cp, .int .i64 (a : Int), .int .u32 bound, .int .i64 e, .int .i64 p]).foot [Res.row bq 130 [str s, .slice ao l.length cp, .int .i64 (a' : Int), .int .u32 bound, .int .i64 (zb9 c (l.getD a zaR) bound).2, .int .i64 ((l.getD a zaR).at_)]] [] w') ∨ ((zb9 c (l.getD a zaR) bound).2 = 0 ∧ v = .tuple #[.agg #[.int .u8 (zb9 c (l.getD a zaR) bound).1.kind, .int .u32 (zb9 c (l.getD a zaR) bound).1.n, str (zb9 c (l.getD a zaR) bound).1.s], .bool true] ∧ St w1 (Res.row bq 130 [str s, .slice ao l.length cp, .int .i64 (a : Int), .int .u32 bound, .int .i64 e, .int .i64 p]).foot [Res.row bq 130 [str s, .slice ao l.length cp, .int .i64 (a + 1 : Int), .int .u32 bound, .int .i64 e, .int .i64 p]] [] w'))) := by
 refine (zu6 bq c w).mono fun v w' h => ?_
 rcases h with ⟨rfl, rfl, hp⟩ | ⟨rfl, rfl, hp⟩ | ⟨rfl, rfl, hp⟩ | ⟨h1, h2, h3, b2, b3, rfl, hp⟩
 ·refine ⟨_, _, _, Res.star [], rfl, hp.starNil, fun w1 r1 r2 r3 r4 r5 r6 r7 => zdN (first := [_]) (cap := []) ent173 (zsN bq s ao cp l a bound e p w1 ha r1 r2 r3 hl hll hts hbd hpl)⟩
 ·refine ⟨_, _, _, Res.star [], rfl, hp.starNil, fun w1 r1 r2 r3 r4 r5 r6 r7 => zdN (first := [_]) (cap := []) ent174 (zk3 bq s ao cp l a bound e p w1 ha r1 r2 r3 hl hll hts r4 r5)⟩
 ·refine ⟨_, _, _, Res.star [], rfl, hp.starNil, fun w1 r1 r2 r3 r4 r5 r6 r7 => zdN (first := [_]) (cap := []) ent175 (zoX bq s ao cp l a bound e p w1 ha r1 r2 r3 hl hll hts)⟩
 ·refine ⟨_, _, _, Res.star [_, _], rfl, St.pack (L1 := [_, _]) hp, fun w1 r1 r2 r3 r4 r5 r6 r7 => zev (cap := [_, _]) ent176 (zsP bq s ao cp l a bound e p c hc hc0 h1 h2 h3 b2 b3 w1 ha r1 r2 r3 hl hll hts (r6.1 _ Q0) (r6.1 _ Q1) (fun b hb hb2 => r7 b hb ⟨_, .head _, hb2⟩) (fun b hb hb2 => r7 b hb ⟨_, .tail _ Q0, hb2⟩))⟩
end Go.SK
namespace Go.SK
open Go Go.Proofs
theorem ent127 : zaN Tryz.prog 127 := ⟨Tryz.f127, _, Tryz.func127, Kr, rfl⟩
theorem ent132 : zaN Tryz.prog 132 := ⟨Tryz.f132, _, Tryz.func132, Kr, rfl⟩
end Go.SK
namespace Go.SK
open Go Go.Proofs
open Go.RowKit
theorem zqi {q : zdD} {fm : FormL} {ob : Bool} (h1 : (refT.find? (nmF q)).getD zeroF = fm) (h2 : (refT.find? (nmF q)).isSome = ob) (w : World) : Ret Tryz.prog 127 #[str q] w fun v w' => v = .tuple #[.agg (zh4 fm).toArray, .bool ob] ∧ St w NoM [] [] w' := by
 subst h1; subst h2; exact zsD q w
theorem zoR {fm : FormL} (hop : zbq fm.op = fm) (h0 : 0 ≤ fm.op) (k j : Nat) (hk : k = j) (hb : j ≤ 9000000000000000000) (w : World) : Ret Tryz.prog 131 #[.int .u16 fm.op, .int .i64 (k : Int)] w fun v w' => v = .int .u8 (zaP fm (j : Int)) ∧ St w NoM [] [] w' := by
 subst hk
 have := zhz fm.op h0 (k : Int) Om w
 rw [hop] at this; exact this
theorem zu3 (bq : Nat) (s : Tx) (ao : Option Addr) (cp : Nat) (l : List TokL) (bound e p : Int) (w : World) (h0 : 0 < l.length) (hB : (Res.row bq 130 [str s, .slice ao l.length cp, .int .i64 ((0 : Nat) : Int), .int .u32 bound, .int .i64 e, .int .i64 p]).holds w) (hT : (Res.sl ao l.length cp 72 3 (l.flatMap zbW)).holds w) (hTA : Apart (Res.row bq 130 [str s, .slice ao l.length cp, .int .i64 ((0 : Nat) : Int), .int .u32 bound, .int .i64 e, .int .i64 p]) (Res.sl ao l.length cp 72 3 (l.flatMap zbW))) (hl : s.length ≤ 1099511627776) (hll : l.length ≤ s.length) (hts : wsz l ≤ 7 * s.length) (hl24 : s.length ≤ 16777216) (hG : LxG.holds w) (hGA : Apart (Res.row bq 130 [str s, .slice ao l.length cp, .int .i64 ((0 : Nat) : Int), .int .u32 bound, .int .i64 e, .int .i64 p]) LxG) (hbd : 0 ≤ bound ∧ bound < 4294967296) (hpl : ∀ i, i < l.length → (l.getD i zaR).kind = 2 → ∃ m, zbn (l.getD i zaR).text = some m) : Ret Tryz.prog 74 #[.pointer (some ⟨bq, 0, none⟩)] w (fun v w' => (∃ (q1 q2 : Int) (o1 t1 r1 : Int) (xo : Option Addr) (xn xc : Nat) (a' : Int), zcV s.length l bound = (zeroIL, false, (q1, q2)) ∧ v = .tuple #[.agg #[.int .u16 o1, .int .u32 t1, .int .u32 r1, .slice xo xn xc], .bool false] ∧ St w (Res.row bq 130 [str s, .slice ao l.length cp, .int .i64 ((0 : Nat) : Int), .int .u32 bound, .int .i64 e, .int .i64 p]).foot [Res.row bq 130 [str s, .slice ao l.length cp, .int .i64 (a' : Int), .int .u32 bound, .int .i64 q1, .int .i64 q2]] [] w') ∨ (∃ (x : InstP) (a' : Int), zcV s.length l bound = (x.L, true, (0, 0)) ∧ (x.args.map za1).sum ≤ 900000000 ∧ (∀ a ∈ x.args, a.s.length ≤ 100000000000) ∧ (0 ≤ x.op ∧ x.op < 65536) ∧ v = .tuple #[.agg #[.int .u16 x.op, .int .u32 x.ty, .int .u32 x.res, .slice x.ao x.args.length x.cap], .bool true] ∧ St w (Res.row bq 130 [str s, .slice ao l.length cp, .int .i64 ((0 : Nat) : Int), .int .u32 bound, .int .i64 e, .int .i64 p]).foot [Res.row bq 130 [str s, .slice ao l.length cp, .int .i64 (a' : Int), .int .u32 bound, .int .i64 e, .int .i64 p], Res.oargs 110 x] [] w')) := by
 refine zav (args := [.pointer (some ⟨bq, 0, none⟩)]) Tryz.func74 rfl rfl rfl ?_
 have hst : St w (Res.row bq 130 [str s, .slice ao l.length cp, .int .i64 ((0 : Nat) : Int), .int .u32 bound, .int .i64 e, .int .i64 p]).foot [Res.row bq 130 [str s, .slice ao l.length cp, .int .i64 ((0 : Nat) : Int), .int .u32 bound, .int .i64 e, .int .i64 p]] [Res.sl ao l.length cp 72 3 (l.flatMap zbW), LxG] w := St.enter1 hB (by simp only [List.forall_mem_cons]; exact ⟨hT, hG, fun _ h => absurd h List.not_mem_nil⟩) (by simp only [List.forall_mem_cons]; exact ⟨hTA, hGA, fun _ h => absurd h List.not_mem_nil⟩)
 obtain ⟨bT, rfl⟩ := Res.sl_some (hst.hD _ Q0) h0
 refine SR <| CN <| Op1.alloc hst zbp fun w b2 hst => AB rfl <| NL <| zjW <| SR <| CN <| Op1.alloc hst zbp fun w b4 hst => NSR <| CN <| Op1.alloc hst zaM fun w b5 hst => NL <| SQ ?_
 refine RG <| CN <| Op1.alloc hst zbd fun w b6 hst => NSR <| AL rfl <| NSR <| AB rfl <| AB rfl <| NSR <| MP rfl ?_
 refine CN <| zaK rfl <| CN <| zaa ze5 rfl <| CN <| zae (v := .slice _ _ _) zcB rfl rfl (hst.cellL Q4 rfl) <| CN <| za5 zcB zbd rfl rfl Om Om <| CN <| zar (vs := zeS _ _ _) zbd rfl rfl rfl (Res.sl_cells (k := 3) (hst.hD _ Q0) _ (zbG (g := zbW) (d := zaR) zbk _ _ Om)) <| CN <| Op1.alloc hst zbd fun w b10 hst => CN (SO (v := zbO _ _ _) hst zbd rfl rfl .u0 fun w hst => ?_)
 refine NSR <| CN <| zaa zfc rfl <| CN <| zae (v := .int .u8 _) ty5 rfl rfl (hst.cellL Q0 rfl) <| CN <| zak rfl rfl <| AB rfl <| NL <| zaj [(0, Pp _ _), (2, Pp _ _), (4, Pp _ _), (5, Pp _ _), (6, Pp _ _), (7, .slice _ _ _), (10, Pp _ _), (11, .bool _)] E8 fun f => SQ ?_
 replace hst := hst.pick (.cons .u5 (.cons .u0 (.cons .u0 (.cons .u0 (.cons .u0 (.cons .u0 .nil))))))
 refine zwE (l := 0) (L1 := [_]) rfl [(0, Pp _ _), (2, Pp _ _), (4, Pp _ _), (5, Pp _ _), (6, Pp _ _), (7, .slice _ _ _), (10, Pp _ _), (11, .bool _)] hst E8 (fun (qq : Nat) => []) (fun (qq : Nat) => [Res.row bq 130 [str s, .slice (some ⟨bT, 0, none⟩) l.length cp, .int .i64 (((qq : Nat) : Int) : Int), .int .u32 bound, .int .i64 e, .int .i64 p]]) (fun (qq : Nat) => LnA l qq) (fun m f w hst hA => ?_) (fun cut1 => ?_)
 replace hst : St _ _ ([Res.row bq 130 [str s, .slice (some ⟨bT, 0, none⟩) l.length cp, .int .i64 (((m : Nat) : Int) : Int), .int .u32 bound, .int .i64 e, .int .i64 p]] ++ [_, _, _, _, _]) _ _ := hst
 replace hA : LnA l m := hA
 ·refine SQ <| SR <| MP rfl <| CN (zaz (v1 := Pp _ _) (v2 := .int .u8 _) zko rfl rfl rfl ((zeN _ _ _ _ l m _ _ _ 1 _ (hst.hL _ Q0) (hst.hD _ Q0) (hst.sepD _ Q0 _ Q0) hl hll hts).mono fun v w hp => ?_))
  rcases hp with ⟨hk47, rfl, hp⟩ | ⟨hk47, hd47, rfl, hp⟩ | ⟨hk47, hd47, rfl, hp⟩
  ·replace hst := hst.call1 hp
   clear hp
   refine CN <| zad (v := .tuple #[zbO _ _ _, .bool _]) rfl <| CN <| Ex (zbO _ _ _) rfl rfl <| CN <| Ex (.bool _) rfl rfl <| CN (SO (v := zbO _ _ _) hst zbd rfl rfl .u2 fun w hst => ?_)
   refine AB rfl <| NSR <| MB rfl <| CN <| zaZ rfl <| NL <| zax (Vb (congrArg not (rfl : false = _))) <| SR <| CN <| zar (vs := zbg _ _ _ _ _ _) zbp rfl rfl rfl (zac (n := 4) (hst.objL Q4) _ rfl) <| CN (SO (v := zbb _ _ _ _ _ _) hst zbp rfl rfl .u5 fun w hst => ?_)
   refine AB rfl <| NL <| zai Tryz.func74 rfl (zal (vs := zbg _ _ _ _ _ _) rfl zbp rfl rfl (zac (n := 4) (hst.objL Q5) _ rfl)) (TP (v := .bool _) rfl) ?_
   replace hst := hst.pick (.cons .u0 .nil)
   exact .inl ⟨_, _, _, _, _, _, _, _, _, hA.early hk47, rfl, hst.noD⟩
  ·replace hst := hst.call1 hp
   clear hp
   refine CN <| zad (v := .tuple #[zbO _ _ _, .bool _]) rfl <| CN <| Ex (zbO _ _ _) rfl rfl <| CN <| Ex (.bool _) rfl rfl <| CN (SO (v := zbO _ _ _) hst zbd rfl rfl .u2 fun w hst => ?_)
   refine AB rfl <| NSR <| MB rfl <| CN <| zaZ rfl <| NL <| zax (Vb (congrArg not (rfl : false = _))) <| SR <| CN <| zar (vs := zbg _ _ _ _ _ _) zbp rfl rfl rfl (zac (n := 4) (hst.objL Q4) _ rfl) <| CN (SO (v := zbb _ _ _ _ _ _) hst zbp rfl rfl .u5 fun w hst => ?_)
   refine AB rfl <| NL <| zai Tryz.func74 rfl (zal (vs := zbg _ _ _ _ _ _) rfl zbp rfl rfl (zac (n := 4) (hst.objL Q5) _ rfl)) (TP (v := .bool _) rfl) ?_
   replace hst := hst.pick (.cons .u0 .nil)
   exact .inl ⟨_, _, _, _, _, _, _, _, _, hA.noword hk47 hd47, rfl, hst.noD⟩
  ·replace hst := hst.call1 hp
   clear hp
   refine CN <| zad (v := .tuple #[zbO _ _ _, .bool _]) rfl <| CN <| Ex (zbO _ _ _) rfl rfl <| CN <| Ex (.bool _) rfl rfl <| CN (SO (v := zbO _ _ _) hst zbd rfl rfl .u2 fun w hst => ?_)
   refine AB rfl <| NSR <| MB rfl <| CN <| zaZ rfl <| NL <| zat (Vb (congrArg not (rfl : true = _))) <| zaf <| SQ <| SR <| CN <| zaa zbl rfl <| CN (zae (v := str _) ty9 rfl rfl (hst.cellL Q2 rfl) ?_)
   obtain ⟨fm, hfn⟩ : ∃ x, (refT.find? (nmF (l.getD m zaR).text)).getD zeroF = x := ⟨_, rfl⟩
   obtain ⟨ob, hob⟩ : ∃ x, (refT.find? (nmF (l.getD m zaR).text)).isSome = x := ⟨_, rfl⟩
   refine CN <| Op1.call1 (v1 := str _) ent127 rfl rfl <| Ret.det (zqi hfn hob _) hst fun w hst => CN <| zad (v := .tuple #[zau _ _ _ _ _ _ _ _, .bool _]) rfl <| CN <| Ex (zau _ _ _ _ _ _ _ _) rfl rfl <| CN <| Ex (.bool _) rfl rfl <| CN (SO (v := zau _ _ _ _ _ _ _ _) hst zaM rfl rfl .u3 fun w hst => ?_)
   refine AB rfl <| NSR <| MB rfl <| CN <| zaZ rfl <| NL <| zaA rfl (fun g2 => ?_) (fun g2 => ?_)
   ·refine SQ ?_
    apply RunD.start [(4, Res.row bq 130 _, Res.emp)] hst (bs := [0, 0, 0, 4, 14, 31, 63]) (ds := [some 61, some 62, some 63, some 64, some 65, none, some 3]) (htab := ⟨Kr, Kr, Kr⟩)
    intro tab3
    refine DO tab3 1 (fun f' L' w' hc=> zar (vs := zbg _ _ _ _ _ _) zbp rfl (hc.old (v := Pp _ _) rfl rfl rfl) rfl (zac (n := 4) (hc.st.objL (List.mem_append_right _ Q3)) _ rfl) hc.z) <| DO tab3 2 (fun f' L' w' hc=> zad (v := Pp _ _) (hc.old rfl rfl rfl) hc.z) <| DO tab3 3 (fun f' L' w' hc=> zaa zb4 (hc.old (v := Pp _ _) rfl rfl rfl) hc.z) <| DO tab3 4 (fun f' L' w' hc=> zae (v := .int .i64 _) ty3 rfl (hc.d 2 rfl rfl rfl rfl) (hc.st.cellL (List.mem_append_right _ Q1) rfl) hc.z) <| zd9 (fun g v rs => v = .bool false ∧ rs = [Res.row bq 130 [str s, .slice (some ⟨bT, 0, none⟩) l.length cp, .int .i64 (((m + 1 : Nat) : Int) : Int), .int .u32 bound, .int .i64 71, .int .i64 ((l.getD m zaR).at_)]]) tab3 5 Q0 (fun f' L' L'' w' hc ⟨X, hrem, hX⟩ => zbD (v1 := Pp _ _) (v2 := .int .i64 _) (v3 := .int .i64 _) zec rfl (hc.d 1 rfl rfl rfl rfl) rfl (hc.d 3 rfl rfl rfl rfl) ((zbY bq s _ cp l (m + 1) bound e p 71 ((l.getD m zaR).at_) _ (hc.st.hL _ hrem.mem2)).mono fun v w hp => ⟨[_], fun g hg => ⟨hp.1, rfl⟩, hX _ _ (St.callRem hc.st hrem hp.2)⟩)) <| RunD.fin zaw tab3 hst rfl (fun f4 w R7 hs5 hd6 hr8 hst => ?_)
    obtain ⟨h61_, r0⟩ := hd6 0 61 rfl rfl
    obtain ⟨h62_, r1⟩ := hd6 1 62 rfl rfl
    obtain ⟨h63_, r2⟩ := hd6 2 63 rfl rfl
    obtain ⟨h64_, r3⟩ := hd6 3 64 rfl rfl
    obtain ⟨h65_, r4⟩ := hd6 4 65 rfl rfl
    simp only [rg5, Fc, Fn, Mc, Mn, r0, r1, r2, r3, r4, Na, An, Ca] at hst
    refine zaD (sl := [(2, Pp _ _), (61, zbb _ _ _ _ _ _), (65, .bool _)]) ⟨(hs5 2 rfl).trans rfl, h61_, h65_, trivial⟩ ?_
    clear hs5 hd6 hr8 tab3
    refine CN (SO (v := zbb _ _ _ _ _ _) hst zbp rfl rfl .u6 fun w hst => ?_)
    refine AB rfl <| NL <| zai Tryz.func74 rfl (zal (vs := zbg _ _ _ _ _ _) rfl zbp rfl rfl (zac (n := 4) (hst.objL Q6) _ rfl)) (TP (v := .bool _) rfl) ?_
    replace hst := hst.pick (.cons .u0 .nil)
    exact .inl ⟨_, _, _, _, _, _, _, _, _, hA.noname hk47 hd47 (hob.trans (by simpa using g2)), rfl, hst.noD⟩
   have hB := LnB.mk2 hA hk47 hd47 (hob.trans (by simpa using g2)) hfn
   have hop := hB.op
   have hop0 := hB.op0
   refine zaf <| SQ <| SR <| CN <| zaa zcS rfl <| CN <| zae (v := .bool _) ty4 rfl rfl (hst.cellL Q3 rfl) <| MB rfl <| CN <| zjA ty4 rfl rfl <| NL <| zaj [(0, Pp _ _), (2, Pp _ _), (4, Pp _ _), (5, Pp _ _), (7, .slice _ _ _), (10, Pp _ _), (11, .bool _), (69, .bool _)] E8 fun f => zaA rfl (fun g9 => ?_) (fun g9 => ?_)
   ·refine SQ ?_
    apply RunD.start [(4, Res.row bq 130 _, Res.emp)] hst (bs := [0, 0, 0, 4, 14, 31, 63]) (ds := [some 70, some 71, some 72, some 73, some 74, none, some 3]) (htab := ⟨Kr, Kr, Kr⟩)
    intro tab10
    refine DO tab10 1 (fun f' L' w' hc=> zar (vs := zbg _ _ _ _ _ _) zbp rfl (hc.old (v := Pp _ _) rfl rfl rfl) rfl (zac (n := 4) (hc.st.objL (List.mem_append_right _ Q3)) _ rfl) hc.z) <| DO tab10 2 (fun f' L' w' hc=> zad (v := Pp _ _) (hc.old rfl rfl rfl) hc.z) <| DO tab10 3 (fun f' L' w' hc=> zaa zb4 (hc.old (v := Pp _ _) rfl rfl rfl) hc.z) <| DO tab10 4 (fun f' L' w' hc=> zae (v := .int .i64 _) ty3 rfl (hc.d 2 rfl rfl rfl rfl) (hc.st.cellL (List.mem_append_right _ Q0) rfl) hc.z) <| zd9 (fun g v rs => v = .bool false ∧ rs = [Res.row bq 130 [str s, .slice (some ⟨bT, 0, none⟩) l.length cp, .int .i64 (((m + 1 : Nat) : Int) : Int), .int .u32 bound, .int .i64 41, .int .i64 ((l.getD 0 zaR).at_)]]) tab10 5 Q0 (fun f' L' L'' w' hc ⟨X, hrem, hX⟩ => zbD (v1 := Pp _ _) (v2 := .int .i64 _) (v3 := .int .i64 _) zec rfl (hc.d 1 rfl rfl rfl rfl) rfl (hc.d 3 rfl rfl rfl rfl) ((zbY bq s _ cp l (m + 1) bound e p 41 ((l.getD 0 zaR).at_) _ (hc.st.hL _ hrem.mem2)).mono fun v w hp => ⟨[_], fun g hg => ⟨hp.1, rfl⟩, hX _ _ (St.callRem hc.st hrem hp.2)⟩)) <| RunD.fin zaw tab10 hst rfl (fun f11 w R14 hs12 hd13 hr15 hst => ?_)
    obtain ⟨h70_, r0⟩ := hd13 0 70 rfl rfl
    obtain ⟨h71_, r1⟩ := hd13 1 71 rfl rfl
    obtain ⟨h72_, r2⟩ := hd13 2 72 rfl rfl
    obtain ⟨h73_, r3⟩ := hd13 3 73 rfl rfl
    obtain ⟨h74_, r4⟩ := hd13 4 74 rfl rfl
    simp only [rg5, Fc, Fn, Mc, Mn, r0, r1, r2, r3, r4, Na, An, Ca] at hst
    refine zaD (sl := [(2, Pp _ _), (70, zbb _ _ _ _ _ _), (74, .bool _)]) ⟨(hs12 2 rfl).trans rfl, h70_, h74_, trivial⟩ ?_
    clear hs12 hd13 hr15 tab10
    refine CN (SO (v := zbb _ _ _ _ _ _) hst zbp rfl rfl .u6 fun w hst => ?_)
    refine AB rfl <| NL <| zai Tryz.func74 rfl (zal (vs := zbg _ _ _ _ _ _) rfl zbp rfl rfl (zac (n := 4) (hst.objL Q6) _ rfl)) (TP (v := .bool _) rfl) ?_
    replace hst := hst.pick (.cons .u0 .nil)
    exact .inl ⟨_, _, _, _, _, _, _, _, _, hB.nores (by simpa using g9), rfl, hst.noD⟩
   have hrs : fm.res = decide ((l.getD 0 zaR).kind = 2) := by simpa using g9
   refine zaf <| SR <| CN <| zaa ze6 rfl <| CN <| zae (v := .int .u16 _) zi4 rfl rfl (hst.cellL Q3 rfl) <| CN <| zaa zdj rfl <| CN (SO (v := .int .u16 _) hst zi4 rfl rfl .u4 fun w hst => ?_)
   refine NL <| SQ ?_
   replace hst := hst.pick (.cons .u4 (.cons .u0 (.cons .u0 (.cons .u0 (.cons .u0 (.cons .u0 .nil))))))
   refine zcT (L1 := [_]) [(0, Pp _ _), (2, Pp _ _), (4, Pp _ _), (5, Pp _ _), (7, .slice _ _ _)] hst E5 (fun (qq : Int) => []) (fun (qq : Int) => [Res.row b4 44 [.int .u16 fm.op, .int .u32 0, .int .u32 qq, .slice none 0 0]]) (fun (qq : Int) => ((l.getD 0 zaR).kind = 2 → qq = idL (l.getD 0 zaR).text bound ∧ qq ≠ 0) ∧ (¬ (l.getD 0 zaR).kind = 2 → qq = 0)) (fun res f w hst hR0 => ?_) (fun cut16 => ?_)
   replace hst : St _ _ ([Res.row b4 44 [.int .u16 fm.op, .int .u32 0, .int .u32 res, .slice none 0 0]] ++ [_, _, _, _, _]) _ _ := hst
   replace hR0 : ((l.getD 0 zaR).kind = 2 → res = idL (l.getD 0 zaR).text bound ∧ res ≠ 0) ∧ (¬ (l.getD 0 zaR).kind = 2 → res = 0) := hR0
   skip
   ·have hC : LnC bound l m fm res := ⟨hB, hrs, hR0.1, hR0.2⟩
    refine SQ <| zcT (L1 := [_, _]) [(0, Pp _ _), (2, Pp _ _), (4, Pp _ _), (5, Pp _ _), (7, .slice _ _ _)] hst E5 (fun (qq : Int × Nat) => []) (fun (qq : Int × Nat) => [Res.row b4 44 [.int .u16 fm.op, .int .u32 qq.1, .int .u32 res, .slice none 0 0], Res.row bq 130 [str s, .slice (some ⟨bT, 0, none⟩) l.length cp, .int .i64 (((qq.2 : Nat) : Int) : Int), .int .u32 bound, .int .i64 e, .int .i64 p]]) (fun (qq : Int × Nat) => LnI bound l m fm res qq.1 qq.2) (fun ⟨ty, q⟩ f w hst hI => ?_) (fun cut18 => ?_)
    replace hst : St _ _ ([Res.row b4 44 [.int .u16 fm.op, .int .u32 ty, .int .u32 res, .slice none 0 0], Res.row bq 130 [str s, .slice (some ⟨bT, 0, none⟩) l.length cp, .int .i64 (((q : Nat) : Int) : Int), .int .u32 bound, .int .i64 e, .int .i64 p]] ++ [_, _, _, _]) _ _ := hst
    replace hI : LnI bound l m fm res ty q := hI
    skip
    ·refine SQ <| zhQ ?_
     replace hst := hst.pushNil 110 3
     replace hst := hst.pushNil 5 1
     refine zaU [(0, Pp _ _), (2, Pp _ _), (4, Pp _ _), (5, Pp _ _)] E4 (fun (qq : Nat × List ArgP × Option Addr × Nat × Option Addr × Nat) => [(7, .slice qq.2.2.2.2.1 (qq.2.1.map ArgP.kind).length qq.2.2.2.2.2)]) (fun (qq : Nat × List ArgP × Option Addr × Nat × Option Addr × Nat) => [Res.sl qq.2.2.2.2.1 (qq.2.1.map ArgP.kind).length qq.2.2.2.2.2 5 1 ((qq.2.1.map ArgP.kind).flatMap u8C), Res.sl qq.2.2.1 qq.2.1.length qq.2.2.2.1 110 3 (qq.2.1.flatMap zff), Res.row b4 44 [.int .u16 fm.op, .int .u32 ty, .int .u32 res, .slice qq.2.2.1 qq.2.1.length qq.2.2.2.1], Res.row bq 130 [str s, .slice (some ⟨bT, 0, none⟩) l.length cp, .int .i64 (((q + qq.1 : Nat) : Int) : Int), .int .u32 bound, .int .i64 e, .int .i64 p]]) (fun (qq : Nat × List ArgP × Option Addr × Nat × Option Addr × Nat) => ArI fm bound l q qq.1 qq.2.1) (fun (qq : Nat × List ArgP × Option Addr × Nat × Option Addr × Nat) => l.length - qq.1) ((0, [], none, 0, none, 0)) hst (ArI.start hI.le) ⟨rfl, trivial⟩ ?_
     intro ⟨j, ags, xo, xc, ko, kc⟩ f w hst hJ ih20
     replace hst : St _ _ ([Res.sl ko (ags.map ArgP.kind).length kc 5 1 ((ags.map ArgP.kind).flatMap u8C), Res.sl xo ags.length xc 110 3 (ags.flatMap zff), Res.row b4 44 [.int .u16 fm.op, .int .u32 ty, .int .u32 res, .slice xo ags.length xc], Res.row bq 130 [str s, .slice (some ⟨bT, 0, none⟩) l.length cp, .int .i64 (((q + j : Nat) : Int) : Int), .int .u32 bound, .int .i64 e, .int .i64 p]] ++ [_, _, _, _]) _ _ := hst
     replace hJ : ArI fm bound l q j ags := hJ
     refine za2 (sl := [(7, .slice ko (ags.map ArgP.kind).length kc)]) ⟨rfl, trivial⟩ ?_
     have hjl := hJ.len
     have hjle := hJ.le
     have hkl : (ags.map ArgP.kind).length = ags.length := List.length_map _
     refine SQ <| SR <| MP rfl ?_
     replace hst := hst.pick (.cons .u3 (.cons .u0 (.cons .u0 (.cons .u0 (.cons .u0 (.cons .u0 (.cons .u0 (.cons .u0 .nil))))))))
     refine CN (Op1.call1 (v1 := Pp _ _) zuf rfl rfl ((zgC _ _ _ _ _ (q + j) _ _ _ _ (hst.hL _ Q0)).mono fun v w hp => ?_))
     obtain ⟨rfl, hp⟩ := hp
     replace hst := hst.call1 hp
     clear hp
     refine NL <| zab rfl (fun g21 => ?_) (fun g21 => ?_)
     ·refine SR <| CN <| zaa ze6 rfl <| CN <| zae (v := .int .u16 _) zi4 rfl rfl (hst.cellL Q6 rfl) <| CN <| zaa zbR rfl <| CN <| zae (v := .slice _ _ _) zdb rfl rfl (hst.cellL Q3 rfl) <| CN <| zaQ (rest := []) zdb rfl <| CN <| zaz (v1 := .int .u16 _) (v2 := .int .i64 _) zun rfl rfl rfl <| Ret.det (zoR hop hop0.1 _ j hjl Om _) hst fun w hst => AC rfl <| NL <| SQ <| SR <| MC rfl <| CN (zak rfl rfl ?_)
      refine NL <| zab rfl (fun g22 => ?_) (fun g22 => ?_)
      ·refine SQ ?_
       apply RunD.start [(13, Res.row bq 130 _, Res.emp)] hst (bs := [0, 0, 0, 4, 12, 28, 0, 64, 192, 448, 1020, 2044, 4092, 8190, 16383, 32767]) (ds := [some 113, some 114, some 115, some 116, some 117, some 118, some 119, some 120, some 121, some 122, some 123, some 124, some 125, some 126, none, some 3]) (htab := ⟨Kr, Kr, Kr⟩)
       intro tab23
       refine DO tab23 1 (fun f' L' w' hc=> zar (vs := zbg _ _ _ _ _ _) zbp rfl (hc.old (v := Pp _ _) rfl rfl rfl) rfl (zac (n := 4) (hc.st.objL (List.mem_append_right _ Q2)) _ rfl) hc.z) <| DO tab23 2 (fun f' L' w' hc=> zad (v := Pp _ _) (hc.old rfl rfl rfl) hc.z) <| DO tab23 3 (fun f' L' w' hc=> zad (v := Pp _ _) (hc.old rfl rfl rfl) hc.z) <| DO tab23 4 (fun f' L' w' hc=> zaK (hc.d 2 rfl rfl rfl rfl) hc.z) <| DO tab23 5 (fun f' L' w' hc=> zaa ze5 (hc.d 3 rfl rfl rfl rfl) hc.z) <| zfY (det _) tab23 6 (fun f' L' w' hc hlate => zae (v := .slice _ _ _) zcB rfl (hc.d 4 rfl rfl rfl rfl) (hc.st.cellL (List.mem_append_left _ (hlate _ _ _ Q0 rfl)) rfl) hc.z) <| DO tab23 7 (fun f' L' w' hc=> zad (v := Pp _ _) (hc.old rfl rfl rfl) hc.z) <| DO tab23 8 (fun f' L' w' hc=> zaK (hc.d 6 rfl rfl rfl rfl) hc.z) <| DO tab23 9 (fun f' L' w' hc=> zaa zdw (hc.d 7 rfl rfl rfl rfl) hc.z) <| zfY (det _) tab23 10 (fun f' L' w' hc hlate => zae (v := .int .i64 _) ty3 rfl (hc.d 8 rfl rfl rfl rfl) (hc.st.cellL (List.mem_append_left _ (hlate _ _ _ Q0 rfl)) rfl) hc.z) <| DO tab23 11 (fun f' L' w' hc=> za5 zcB zbd (hc.d 5 rfl rfl rfl rfl) (hc.d 9 rfl rfl rfl rfl) Om Om hc.z) <| DO tab23 12 (fun f' L' w' hc=> zaa zb4 (hc.d 10 rfl rfl rfl rfl) hc.z) <| DO tab23 13 (fun f' L' w' hc=> zae (v := .int .i64 _) ty3 rfl (hc.d 11 rfl rfl rfl rfl) (Res.sl_cell (hc.st.hD _ Q0) (za3 (g := zbW) (d := zaR) zbk rfl Om)) hc.z) <| zd9 (fun g v rs => v = .bool false ∧ rs = [Res.row bq 130 [str s, .slice (some ⟨bT, 0, none⟩) l.length cp, .int .i64 (((q + j : Nat) : Int) : Int), .int .u32 bound, .int .i64 70, .int .i64 ((l.getD (q + j) zaR).at_)]]) tab23 14 Q0 (fun f' L' L'' w' hc ⟨X, hrem, hX⟩ => zbD (v1 := Pp _ _) (v2 := .int .i64 _) (v3 := .int .i64 _) zec rfl (hc.d 1 rfl rfl rfl rfl) rfl (hc.d 12 rfl rfl rfl rfl) ((zbY bq s _ cp l (q + j) bound e p 70 ((l.getD (q + j) zaR).at_) _ (hc.st.hL _ hrem.mem2)).mono fun v w hp => ⟨[_], fun g hg => ⟨hp.1, rfl⟩, hX _ _ (St.callRem hc.st hrem hp.2)⟩)) <| RunD.fin zaw tab23 hst rfl (fun f24 w R27 hs25 hd26 hr28 hst => ?_)
       obtain ⟨h113_, r0⟩ := hd26 0 113 rfl rfl
       obtain ⟨h114_, r1⟩ := hd26 1 114 rfl rfl
       obtain ⟨h115_, r2⟩ := hd26 2 115 rfl rfl
       obtain ⟨h116_, r3⟩ := hd26 3 116 rfl rfl
       obtain ⟨h117_, r4⟩ := hd26 4 117 rfl rfl
       obtain ⟨h118_, r5⟩ := hd26 5 118 rfl rfl
       obtain ⟨h119_, r6⟩ := hd26 6 119 rfl rfl
       obtain ⟨h120_, r7⟩ := hd26 7 120 rfl rfl
       obtain ⟨h121_, r8⟩ := hd26 8 121 rfl rfl
       obtain ⟨h122_, r9⟩ := hd26 9 122 rfl rfl
       obtain ⟨h123_, r10⟩ := hd26 10 123 rfl rfl
       obtain ⟨h124_, r11⟩ := hd26 11 124 rfl rfl
       obtain ⟨h125_, r12⟩ := hd26 12 125 rfl rfl
       obtain ⟨h126_, r13⟩ := hd26 13 126 rfl rfl
       simp only [rg14, Fc, Fn, Mc, Mn, r0, r1, r2, r3, r4, r5, r6, r7, r8, r9, r10, r11, r12, r13, Na, An, Ca] at hst
       refine zaD (sl := [(2, Pp _ _), (113, zbb _ _ _ _ _ _), (126, .bool _)]) ⟨(hs25 2 rfl).trans rfl, h113_, h126_, trivial⟩ ?_
       clear hs25 hd26 hr28 tab23
       refine CN (SO (v := zbb _ _ _ _ _ _) hst zbp rfl rfl .u8 fun w hst => ?_)
       refine AB rfl <| NL <| zai Tryz.func74 rfl (zal (vs := zbg _ _ _ _ _ _) rfl zbp rfl rfl (zac (n := 4) (hst.objL Q8) _ rfl)) (TP (v := .bool _) rfl) ?_
       replace hst := hst.pick (.cons .u0 .nil)
       exact .inl ⟨_, _, _, _, _, _, _, _, _, hI.zero hJ Om g22, rfl, hst.noD⟩
      refine zaf <| SR <| MP rfl <| MC rfl ?_
      have hc0 : zaP fm (j : Int) ≠ 0 := g22
      refine CN (zaz (v1 := Pp _ _) (v2 := .int .u8 _) ent132 rfl rfl rfl ((zsO bq s (some ⟨bT, 0, none⟩) cp l (q + j) bound e p (zaP fm (j : Int)) (zcp fm _) hc0 _ Om hl hll hts hbd hpl).mono fun v w hp => ?_))
      obtain ⟨fn, fi, ca, R, rfl, hp, hcl⟩ := hp
      replace hst : St _ _ (_ :: _) _ _ := hst.call0 hp
      clear hp
      replace hst := hst.pick (.cons .u1 (.cons .u0 (.cons .u0 (.cons .u0 (.cons .u0 (.cons .u0 (.cons .u0 (.cons .u0 (.cons .u0 .nil)))))))))
      refine CN (zsU  rfl  (((hcl _ (hst.hL _ Q0) (hst.hD _ Q0) (hst.sepD _ Q0 _ Q0) (hst.hD _ Q1) (hst.sepD _ Q0 _ Q1) (hst.hL _ Q1) ((List.pairwise_cons.1 hst.sep).1 _ Q0))).mono fun v w hp => ?_))
      rcases hp with ⟨z1, z2, z3, a2, hne, rfl, hp⟩ | ⟨hz, rfl, hp⟩
      ·replace hst := hst.call1 hp
       clear hp
       refine CN <| zad (v := .tuple #[zcy _ _ _, .bool _]) rfl <| CN <| Ex (zcy _ _ _) rfl rfl <| CN <| Ex (.bool _) rfl rfl <| CN <| Op1.alloc hst za9 fun w b13 hst => CN (SO (v := zcy _ _ _) hst za9 rfl rfl .u0 fun w hst => ?_)
       refine AB rfl <| NL <| zaj [(0, Pp _ _), (2, Pp _ _), (4, Pp _ _), (5, Pp _ _), (7, .slice _ _ _), (13, Pp _ _), (14, .bool _)] E7 fun f => SQ <| SR <| MB rfl <| CN <| zaZ rfl <| NL <| zax (Vb (congrArg not (rfl : false = _))) <| SR <| CN <| zar (vs := zbg _ _ _ _ _ _) zbp rfl rfl rfl (zac (n := 4) (hst.objL Q5) _ rfl) <| CN (SO (v := zbb _ _ _ _ _ _) hst zbp rfl rfl .u9 fun w hst => ?_)
       refine AB rfl <| NL <| zai Tryz.func74 rfl (zal (vs := zbg _ _ _ _ _ _) rfl zbp rfl rfl (zac (n := 4) (hst.objL Q9) _ rfl)) (TP (v := .bool _) rfl) ?_
       replace hst := hst.pick (.cons .u1 .nil)
       exact .inl ⟨_, _, _, _, _, _, _, _, _, hI.bad hJ Om hne, rfl, hst.noD⟩
      ·replace hst := hst.call1 hp
       clear hp
       refine CN <| zad (v := .tuple #[zcy _ _ _, .bool _]) rfl <| CN <| Ex (zcy _ _ _) rfl rfl <| CN <| Ex (.bool _) rfl rfl <| CN <| Op1.alloc hst za9 fun w b13 hst => CN (SO (v := zcy _ _ _) hst za9 rfl rfl .u0 fun w hst => ?_)
       refine AB rfl <| NL <| zaj [(0, Pp _ _), (2, Pp _ _), (4, Pp _ _), (5, Pp _ _), (7, .slice _ _ _), (13, Pp _ _), (14, .bool _)] E7 fun f => SQ <| SR <| MB rfl <| CN <| zaZ rfl <| NL <| zat (Vb (congrArg not (rfl : true = _))) <| zaf <| SR <| CN <| zaa zbR rfl <| CN (zae (v := .slice _ _ _) zdb rfl rfl (hst.cellL Q5 rfl) ?_)
       refine CN <| zar (vs := zcX _ _ _) za9 rfl rfl rfl (zac (n := 3) (hst.objL Q0) _ rfl) <| CN (zaE (z0 := [.int .u8 0, .int .u32 0, str []]) hst zdb za9 rfl rfl Kr (.c (v := zcy _ _ _) rfl (h := .nil)) fun w b140 hst => ?_)
       refine CN (zaI (news := (zcX _ _ _)) hst zdb za9 rfl rfl .u5 rfl rfl rfl (zac (n := 3) (hst.objL Q0) _ rfl) rfl rfl Om fun w ao29 cp30 hst => ?_)
       replace hst := hst.drop .u1
       refine CN <| zaa zbR rfl <| CN (SO (v := .slice _ _ _) hst zdb rfl rfl .u5 fun w hst => ?_)
       refine NSR <| ML rfl <| CN <| zaa zbA rfl <| CN <| zae (v := .int .u8 _) ty5 rfl rfl (hst.cellL Q1 rfl) <| CN (zaE (z0 := [.int .u8 0]) hst zcr ty5 rfl rfl Kr (.c (v := .int .u8 _) rfl (h := .nil)) fun w b146 hst => ?_)
       refine CN (zaI (news := [.int .u8 _]) hst zcr ty5 rfl rfl .u5 rfl rfl rfl (zac (n := 1) (hst.objL Q0) _ rfl) rfl rfl Om fun w ao31 cp32 hst => ?_)
       replace hst := hst.drop .u1
       refine AL rfl <| NL ?_
       have e1 : (ags ++ [(zb9 (zaP fm (j : Int)) (l.getD (q + j) zaR) bound).1]).length = ags.length + 1 := List.length_append
       have e2 : (ags ++ [(zb9 (zaP fm (j : Int)) (l.getD (q + j) zaR) bound).1]).flatMap zff = ags.flatMap zff ++ zff (zb9 (zaP fm (j : Int)) (l.getD (q + j) zaR) bound).1 := by rw [List.flatMap_append]; simp
       have e3 : ((ags ++ [(zb9 (zaP fm (j : Int)) (l.getD (q + j) zaR) bound).1]).map ArgP.kind).flatMap u8C = (ags.map ArgP.kind).flatMap u8C ++ [.int .u8 (zb9 (zaP fm (j : Int)) (l.getD (q + j) zaR) bound).1.kind] := by rw [List.map_append, List.flatMap_append]; rfl
       have e4 : ((ags ++ [(zb9 (zaP fm (j : Int)) (l.getD (q + j) zaR) bound).1]).map ArgP.kind).length = (ags.map ArgP.kind).length + 1 := by rw [List.length_map, List.length_map, e1]
       replace hst := hst.pick (.cons .u0 (.cons .u0 (.cons .u3 (.cons .u1 (.cons .u2 (.cons .u2 (.cons .u2 (.cons .u2 .nil))))))))
       refine zjg ?_ (SQ (zaf (ih20 ((j + 1, ags ++ [(zb9 (zaP fm (j : Int)) (l.getD (q + j) zaR) bound).1], ao29, cp30, ao31, cp32)) _ w ((by (try dsimp only); omega)) (by (try dsimp only); rw [e1, e2, e3, e4]; exact hst) (hJ.step (by omega) hz) E4 ⟨(by (try dsimp only); rw [e4]; rfl), trivial⟩)))
       rfl
     refine zaf <| SQ <| SR <| CN <| zaa ze6 rfl <| CN <| zae (v := .int .u16 _) zi4 rfl rfl (hst.cellL Q6 rfl) <| ML rfl <| CN <| zaz (v1 := .int .u16 _) (v2 := .slice _ _ _) zxk rfl rfl rfl <| Ret.det (zoU fm.op hop0.1 (ags.map ArgP.kind) _ _ _ (Res.rs_of_sl (hst.hL _ Q1)) (by rw [List.length_map]; omega)) hst fun w hst => CN <| zad (v := .tuple #[.int .i64 _, .bool _]) rfl <| CN <| Ex (.int .i64 _) rfl rfl <| CN <| Ex (.bool _) rfl rfl <| AI rfl <| AB rfl <| NL <| SQ ?_
     refine RG <| MB rfl <| CN <| zaZ rfl <| NL <| zaA rfl (fun g33 => ?_) (fun g33 => ?_)
     ·refine SQ ?_
      apply RunD.start [(7, Res.row bq 130 _, Res.emp)] hst (bs := [0, 0, 0, 4, 12, 28, 60, 126, 255, 511]) (ds := [some 157, some 158, some 159, some 160, some 161, some 162, some 163, some 164, none, some 3]) (htab := ⟨Kr, Kr, Kr⟩)
      intro tab34
      refine DO tab34 1 (fun f' L' w' hc=> zar (vs := zbg _ _ _ _ _ _) zbp rfl (hc.old (v := Pp _ _) rfl rfl rfl) rfl (zac (n := 4) (hc.st.objL (List.mem_append_right _ Q2)) _ rfl) hc.z) <| DO tab34 2 (fun f' L' w' hc=> zad (v := Pp _ _) (hc.old rfl rfl rfl) hc.z) <| DO tab34 3 (fun f' L' w' hc=> zad (v := Pp _ _) (hc.old rfl rfl rfl) hc.z) <| DO tab34 4 (fun f' L' w' hc=> zaK (hc.d 2 rfl rfl rfl rfl) hc.z) <| DO tab34 5 (fun f' L' w' hc=> zaa zmA (hc.d 3 rfl rfl rfl rfl) hc.z) <| zfY (det _) tab34 6 (fun f' L' w' hc hlate => zae (v := str _) ty9 rfl (hc.d 4 rfl rfl rfl rfl) (hc.st.cellL (List.mem_append_left _ (hlate _ _ _ Q0 rfl)) rfl) hc.z) <| DO tab34 7 (fun f' L' w' hc=> zaL (rest := []) ty9 (hc.d 5 rfl rfl rfl rfl) hc.z) <| zd9 (fun g v rs => v = .bool false ∧ rs = [Res.row bq 130 [str s, .slice (some ⟨bT, 0, none⟩) l.length cp, .int .i64 (((q + j : Nat) : Int) : Int), .int .u32 bound, .int .i64 72, .int .i64 (s.length)]]) tab34 8 Q0 (fun f' L' L'' w' hc ⟨X, hrem, hX⟩ => zbD (v1 := Pp _ _) (v2 := .int .i64 _) (v3 := .int .i64 _) zec rfl (hc.d 1 rfl rfl rfl rfl) rfl (hc.d 6 rfl rfl rfl rfl) ((zbY bq s _ cp l (q + j) bound e p 72 (s.length) _ (hc.st.hL _ hrem.mem2)).mono fun v w hp => ⟨[_], fun g hg => ⟨hp.1, rfl⟩, hX _ _ (St.callRem hc.st hrem hp.2)⟩)) <| RunD.fin zaw tab34 hst rfl (fun f35 w R38 hs36 hd37 hr39 hst => ?_)
      obtain ⟨h157_, r0⟩ := hd37 0 157 rfl rfl
      obtain ⟨h158_, r1⟩ := hd37 1 158 rfl rfl
      obtain ⟨h159_, r2⟩ := hd37 2 159 rfl rfl
      obtain ⟨h160_, r3⟩ := hd37 3 160 rfl rfl
      obtain ⟨h161_, r4⟩ := hd37 4 161 rfl rfl
      obtain ⟨h162_, r5⟩ := hd37 5 162 rfl rfl
      obtain ⟨h163_, r6⟩ := hd37 6 163 rfl rfl
      obtain ⟨h164_, r7⟩ := hd37 7 164 rfl rfl
      simp only [rg8, Fc, Fn, Mc, Mn, r0, r1, r2, r3, r4, r5, r6, r7, Na, An, Ca] at hst
      refine zaD (sl := [(2, Pp _ _), (157, zbb _ _ _ _ _ _), (164, .bool _)]) ⟨(hs36 2 rfl).trans rfl, h157_, h164_, trivial⟩ ?_
      clear hs36 hd37 hr39 tab34
      refine CN (SO (v := zbb _ _ _ _ _ _) hst zbp rfl rfl .u8 fun w hst => ?_)
      refine AB rfl <| NL <| zai Tryz.func74 rfl (zal (vs := zbg _ _ _ _ _ _) rfl zbp rfl rfl (zac (n := 4) (hst.objL Q8) _ rfl)) (TP (v := .bool _) rfl) ?_
      replace hst := hst.pick (.cons .u0 .nil)
      exact .inl ⟨_, _, _, _, _, _, _, _, _, hI.nofit hJ (by omega) (by simpa using g33), rfl, hst.noD⟩
     have hfit : (zej fm.op (ags.map ArgP.kind)).2 = true := by simpa using g33
     have hsm := hJ.small hts hll hl24
     obtain ⟨rop, rws, re, hR⟩ : ∃ rop rws re, zis bound (⟨fm.op, ty, res, ags⟩ : InstL) = ((rop, rws), re) := ⟨_, _, _, rfl⟩
     have hre : re = zbu bound ⟨fm.op, ty, res, ags⟩ := by rw [← zlo, hR]
     refine zaf <| SQ <| SQ <| zhu [(9, 10)] [] hst (bs := [0, 0, 2, 6, 14, 31, 63, 127, 127, 0, 767, 2047]) (ds := [some 166, some 167, some 168, some 169, some 170, some 171, some 165, some 172, some 173, some 17, none, some 18]) ⟨Kr, Kr, Kr⟩ (fun tab40 => ?_)
     refine DO tab40 1 (fun f' L' w' hc=> zar (vs := zbg _ _ _ _ _ _) zbp rfl (hc.old (v := Pp _ _) rfl rfl rfl) rfl (zac (n := 4) (hc.st.objL (List.mem_append_right _ Q3)) _ rfl) hc.z) <| DO tab40 2 (fun f' L' w' hc=> zad (v := Pp _ _) (hc.old rfl rfl rfl) hc.z) <| DO tab40 3 (fun f' L' w' hc=> zaK (hc.d 1 rfl rfl rfl rfl) hc.z) <| DO tab40 4 (fun f' L' w' hc=> zaa zq3 (hc.d 2 rfl rfl rfl rfl) hc.z) <| DO tab40 5 (fun f' L' w' hc=> zae (v := .int .u32 _) zbt rfl (hc.d 3 rfl rfl rfl rfl) (hc.st.cellL (List.mem_append_right _ Q0) rfl) hc.z) <| RunD.op (fun v rs => ∃ ro rc, v = .tuple #[.agg #[.int .u16 rop, .slice ro rws.length rc], .int .i64 re] ∧ rs = [Res.sl ro rws.length rc 22 1 (rws.flatMap zdE)]) tab40 6 (fun f' L' w' hc=> zaz (v1 := zbb _ _ _ _ _ _) (v2 := .int .u32 _) zug rfl (hc.d 0 rfl rfl rfl rfl) (hc.d 4 rfl rfl rfl rfl) ((zim (p := ⟨fm.op, ty, res, xo, xc, ags⟩) hR hop0.1 _ (Res.rs_of_sl (hc.st.hL _ (List.mem_append_right _ Q2))) hsm.1 hsm.2).mono fun v w hp => (by obtain ⟨ro, rc, rfl, hp⟩ := hp; exact ⟨_, ⟨ro, rc, rfl, rfl⟩, hc.st.call0 hp⟩))) <| zfX (fun g v rs => v = g 171 ∧ rs = []) tab40 7 (fun f' L' w' hc=> zad (evs rfl rfl) ⟨[], fun g hg => ⟨(hg 5 171 rfl rfl).symm, rfl⟩, hc.st⟩) <| zfX (fun g v rs => (∀ ro rc, g 171 = .tuple #[.agg #[.int .u16 rop, .slice ro rws.length rc], .int .i64 re] → v = .agg #[.int .u16 rop, .slice ro rws.length rc]) ∧ rs = []) tab40 8 (fun f' L' w' hc=> by obtain ⟨_, _, q1, _⟩ := hc.dep 5 171 rfl rfl; obtain ⟨ro, rc, htc, _⟩ := q1; obtain ⟨gm, _, q2, hgm, _⟩ := hc.dep 6 165 rfl rfl; have htm : f' 165 = .tuple #[.agg #[.int .u16 rop, .slice ro rws.length rc], .int .i64 re] := (by rw [q2.1, hgm 5 171 rfl rfl, htc]); exact Op1.extract (v := .agg #[.int .u16 rop, .slice ro rws.length rc]) (evs htm rfl) rfl ⟨[], fun g hg => ⟨fun ro2 rc2 e => (by rw [hg 5 171 rfl rfl, htc] at e; cases e; rfl), rfl⟩, hc.st⟩) <| RunD.op (det (.int .i64 re)) tab40 9 (fun f' L' w' hc=> by obtain ⟨_, _, q1, _⟩ := hc.dep 5 171 rfl rfl; obtain ⟨ro, rc, htc, _⟩ := q1; obtain ⟨gm, _, q2, hgm, _⟩ := hc.dep 6 165 rfl rfl; have htm : f' 165 = .tuple #[.agg #[.int .u16 rop, .slice ro rws.length rc], .int .i64 re] := (by rw [q2.1, hgm 5 171 rfl rfl, htc]); exact Op1.extract (v := .int .i64 re) (evs htm rfl) rfl hc.z) <| RunD.op (fun v rs => ∃ b, v = .pointer (some ⟨b, 0, none⟩) ∧ rs = [Res.row b 62 [.int .u16 0, .slice none 0 0]]) tab40 10 (fun f' L' w' hc=> Op1.alloc hc.st zeR fun w b hst => ⟨[_], ⟨b, rfl, rfl⟩, hst⟩) <| zkx (fun g v rs => v = undef ∧ ∃ b, g 17 = .pointer (some ⟨b, 0, none⟩) ∧ ∀ ro rc, g 171 = .tuple #[.agg #[.int .u16 rop, .slice ro rws.length rc], .int .i64 re] → rs = [Res.row b 62 [.int .u16 rop, .slice ro rws.length rc]]) tab40 11 9 17 Q0 rfl (fun f' L' L'' w' hc hq => by obtain ⟨_, rs, hz, _, hp⟩ := hq; obtain ⟨b, hb, hrs⟩ := hz; subst hrs; obtain ⟨_, _, q1, _⟩ := hc.dep 5 171 rfl rfl; obtain ⟨ro, rc, htc, _⟩ := q1; obtain ⟨gx, _, q3, hgx, _⟩ := hc.dep 7 172 rfl rfl; have htx := q3.1 ro rc ((hgx 5 171 rfl rfl).trans htc); have hst := hc.st.perm (hp.append_right _); exact zbC (v := gHL _ _ _ _) hst zeR (evs hb rfl) (evs htx rfl) rfl rfl rfl .here (by repeat (first | exact Put.nil | apply Put.put | apply Put.skip)) fun w hst => ⟨[_], fun g hg => ⟨rfl, b, (hg 9 17 rfl rfl).trans hb, fun ro2 rc2 e => (by rw [hg 5 171 rfl rfl, htc] at e; cases e; rfl)⟩, hst⟩) ?_
     refine zik zaw tab40 hst rfl (fun f41 w R44 hs42 hd43 hr45 hst => ?_)
     obtain ⟨h166_, r0⟩ := hd43 0 166 rfl rfl
     obtain ⟨h167_, r1⟩ := hd43 1 167 rfl rfl
     obtain ⟨h168_, r2⟩ := hd43 2 168 rfl rfl
     obtain ⟨h169_, r3⟩ := hd43 3 169 rfl rfl
     obtain ⟨h170_, r4⟩ := hd43 4 170 rfl rfl
     obtain ⟨ro, rc, h171_, r5⟩ := hd43 5 171 rfl rfl
     obtain ⟨h165_, r6⟩ := hd43 6 165 rfl rfl
     rw [DrawTab.mask tab40 _ (j := 6) (l := 5) (t := 171) rfl rfl, h171_] at h165_
     obtain ⟨h172_, r7⟩ := hd43 7 172 rfl rfl
     replace h172_ := h172_ ro rc ((DrawTab.mask tab40 _ (j := 7) (l := 5) (t := 171) rfl rfl).trans h171_)
     obtain ⟨h173_, r8⟩ := hd43 8 173 rfl rfl
     obtain ⟨_, _, b17, h17_, r10⟩ := hr45 10 rfl
     rw [DrawTab.mask tab40 _ (j := 10) (l := 9) (t := 17) rfl rfl] at h17_
     replace r10 := r10 ro rc ((DrawTab.mask tab40 _ (j := 10) (l := 5) (t := 171) rfl rfl).trans h171_)
     simp only [rg11, Fc, Fn, Mc, Mn, show zer [(9, 10)] R44 0 = R44 0 from rfl, show zer [(9, 10)] R44 1 = R44 1 from rfl, show zer [(9, 10)] R44 2 = R44 2 from rfl, show zer [(9, 10)] R44 3 = R44 3 from rfl, show zer [(9, 10)] R44 4 = R44 4 from rfl, show zer [(9, 10)] R44 5 = R44 5 from rfl, show zer [(9, 10)] R44 6 = R44 6 from rfl, show zer [(9, 10)] R44 7 = R44 7 from rfl, show zer [(9, 10)] R44 8 = R44 8 from rfl, show zer [(9, 10)] R44 9 = [] from rfl, show zer [(9, 10)] R44 10 = R44 10 from rfl, r0, r1, r2, r3, r4, r5, r6, r7, r8, r10, Na, An, Ca] at hst
     refine zaD (sl := [(0, Pp _ _), (2, Pp _ _), (4, Pp _ _), (173, .int .i64 _)]) ⟨(hs42 0 rfl).trans rfl, (hs42 2 rfl).trans rfl, (hs42 4 rfl).trans rfl, h173_, trivial⟩ ?_
     clear hs42 hd43 hr45 tab40
     refine AI rfl <| NL <| zaj [(0, Pp _ _), (2, Pp _ _), (4, Pp _ _), (18, .int .i64 _)] E4 fun f => SR <| MI rfl <| CN <| zaW rfl rfl <| NL <| zab rfl (fun g46 => ?_) (fun g46 => ?_)
     ·refine SQ ?_
      replace hst := hst.pick (.cons .u2 (.cons .u0 (.cons .u0 (.cons .u0 (.cons .u0 (.cons .u0 (.cons .u0 (.cons .u0 (.cons .u0 (.cons .u0 .nil))))))))))
      apply RunD.start [(3, Res.row bq 130 _, Res.emp)] hst (bs := [0, 0, 0, 6, 15, 31]) (ds := [some 176, some 177, some 178, some 179, none, some 3]) (htab := ⟨Kr, Kr, Kr⟩)
      intro tab47
      refine DO tab47 1 (fun f' L' w' hc=> zar (vs := zbg _ _ _ _ _ _) zbp rfl (hc.old (v := Pp _ _) rfl rfl rfl) rfl (zac (n := 4) (hc.st.objL (List.mem_append_right _ Q4)) _ rfl) hc.z) <| DO tab47 2 (fun f' L' w' hc=> zad (v := Pp _ _) (hc.old rfl rfl rfl) hc.z) <| DO tab47 3 (fun f' L' w' hc=> zad (v := .int .i64 _) (hc.old rfl rfl rfl) hc.z) <| zd9 (fun g v rs => v = .bool false ∧ rs = [Res.row bq 130 [str s, .slice (some ⟨bT, 0, none⟩) l.length cp, .int .i64 (((q + j : Nat) : Int) : Int), .int .u32 bound, .int .i64 re, .int .i64 0]]) tab47 4 Q0 (fun f' L' L'' w' hc ⟨X, hrem, hX⟩ => zbD (v1 := Pp _ _) (v2 := .int .i64 _) (v3 := .int .i64 _) zec rfl (hc.d 1 rfl rfl rfl rfl) (hc.d 2 rfl rfl rfl rfl) rfl ((zbY bq s _ cp l (q + j) bound e p re 0 _ (hc.st.hL _ hrem.mem2)).mono fun v w hp => ⟨[_], fun g hg => ⟨hp.1, rfl⟩, hX _ _ (St.callRem hc.st hrem hp.2)⟩)) <| RunD.fin zaw tab47 hst rfl (fun f48 w R51 hs49 hd50 hr52 hst => ?_)
      obtain ⟨h176_, r0⟩ := hd50 0 176 rfl rfl
      obtain ⟨h177_, r1⟩ := hd50 1 177 rfl rfl
      obtain ⟨h178_, r2⟩ := hd50 2 178 rfl rfl
      obtain ⟨h179_, r3⟩ := hd50 3 179 rfl rfl
      simp only [rg4, Fc, Fn, Mc, Mn, r0, r1, r2, r3, Na, An, Ca] at hst
      refine zaD (sl := [(2, Pp _ _), (176, zbb _ _ _ _ _ _), (179, .bool _)]) ⟨(hs49 2 rfl).trans rfl, h176_, h179_, trivial⟩ ?_
      clear hs49 hd50 hr52 tab47
      refine CN (SO (v := zbb _ _ _ _ _ _) hst zbp rfl rfl .u10 fun w hst => ?_)
      refine AB rfl <| NL <| zai Tryz.func74 rfl (zal (vs := zbg _ _ _ _ _ _) rfl zbp rfl rfl (zac (n := 4) (hst.objL Q10) _ rfl)) (TP (v := .bool _) rfl) ?_
      replace hst := hst.pick (.cons .u0 .nil)
      exact .inl ⟨_, _, _, _, _, _, _, _, _, hI.wrong hJ Om hfit hre g46, rfl, hst.noD⟩
     refine zaf <| SR <| CN <| zar (vs := zbg _ _ _ _ _ _) zbp rfl rfl rfl (zac (n := 4) (hst.objL Q5) _ rfl) <| CN (SO (v := zbb _ _ _ _ _ _) hst zbp rfl rfl .u9 fun w hst => ?_)
     refine AB rfl <| NL <| zai Tryz.func74 rfl (zal (vs := zbg _ _ _ _ _ _) rfl zbp rfl rfl (zac (n := 4) (hst.objL Q9) _ rfl)) (TP (v := .bool _) rfl) ?_
     replace hst := hst.pick (.cons .u2 (.cons .u3 .nil))
     exact .inr ⟨⟨fm.op, ty, res, xo, xc, ags⟩, _, hI.good hJ Om hfit hre Om, hsm.1, hsm.2, hop0, rfl, hst.noD⟩
    ·refine SR <| CN <| zaa zdy rfl <| CN <| zae (v := .bool _) ty4 rfl rfl (hst.cellL Q4 rfl) <| NL <| zaA rfl (fun g53 => ?_) (fun g53 => ?_)
     ·refine SR <| MP rfl ?_
      replace hst := hst.pick (.cons .u1 (.cons .u0 (.cons .u0 (.cons .u0 (.cons .u0 (.cons .u0 .nil))))))
      refine CN (Op1.call1 (v1 := Pp _ _) zxl rfl rfl ((zu4 _ _ _ _ l (m + 1) _ _ _ _ (hst.hL _ Q0) (hst.hD _ Q0) (hst.sepD _ Q0 _ Q0) hl hll hts hbd hpl).mono fun v w hp => ?_))
      rcases hp with ⟨hk96, rfl, hp⟩ | ⟨hk96, hd96, rfl, hp⟩ | ⟨hk96, hd96, he96, rfl, hp⟩ | ⟨hk96, hd96, he96, rfl, hp⟩
      ·replace hst := hst.call1 hp
       clear hp
       refine CN <| zad (v := .tuple #[.int .u32 _, .bool _]) rfl <| CN <| Ex (.int .u32 _) rfl rfl <| CN <| Ex (.bool _) rfl rfl <| CN <| zaa zdK rfl <| CN (SO (v := .int .u32 _) hst zbt rfl rfl .u1 fun w hst => ?_)
       refine AB rfl <| NSR <| MB rfl <| CN <| zaZ rfl <| NL <| zax (Vb (congrArg not (rfl : false = _))) <| SR <| CN <| zar (vs := zbg _ _ _ _ _ _) zbp rfl rfl rfl (zac (n := 4) (hst.objL Q1) _ rfl) <| CN (SO (v := zbb _ _ _ _ _ _) hst zbp rfl rfl .u5 fun w hst => ?_)
       refine AB rfl <| NL <| zai Tryz.func74 rfl (zal (vs := zbg _ _ _ _ _ _) rfl zbp rfl rfl (zac (n := 4) (hst.objL Q5) _ rfl)) (TP (v := .bool _) rfl) ?_
       replace hst := hst.pick (.cons .u0 .nil)
       exact .inl ⟨_, _, _, _, _, _, _, _, _, hC.early g53 hk96, rfl, hst.noD⟩
      ·replace hst := hst.call1 hp
       clear hp
       refine CN <| zad (v := .tuple #[.int .u32 _, .bool _]) rfl <| CN <| Ex (.int .u32 _) rfl rfl <| CN <| Ex (.bool _) rfl rfl <| CN <| zaa zdK rfl <| CN (SO (v := .int .u32 _) hst zbt rfl rfl .u1 fun w hst => ?_)
       refine AB rfl <| NSR <| MB rfl <| CN <| zaZ rfl <| NL <| zax (Vb (congrArg not (rfl : false = _))) <| SR <| CN <| zar (vs := zbg _ _ _ _ _ _) zbp rfl rfl rfl (zac (n := 4) (hst.objL Q1) _ rfl) <| CN (SO (v := zbb _ _ _ _ _ _) hst zbp rfl rfl .u5 fun w hst => ?_)
       refine AB rfl <| NL <| zai Tryz.func74 rfl (zal (vs := zbg _ _ _ _ _ _) rfl zbp rfl rfl (zac (n := 4) (hst.objL Q5) _ rfl)) (TP (v := .bool _) rfl) ?_
       replace hst := hst.pick (.cons .u0 .nil)
       exact .inl ⟨_, _, _, _, _, _, _, _, _, hC.notid g53 hk96 hd96, rfl, hst.noD⟩
      ·replace hst := hst.call1 hp
       clear hp
       refine CN <| zad (v := .tuple #[.int .u32 _, .bool _]) rfl <| CN <| Ex (.int .u32 _) rfl rfl <| CN <| Ex (.bool _) rfl rfl <| CN <| zaa zdK rfl <| CN (SO (v := .int .u32 _) hst zbt rfl rfl .u1 fun w hst => ?_)
       refine AB rfl <| NSR <| MB rfl <| CN <| zaZ rfl <| NL <| zax (Vb (congrArg not (rfl : false = _))) <| SR <| CN <| zar (vs := zbg _ _ _ _ _ _) zbp rfl rfl rfl (zac (n := 4) (hst.objL Q1) _ rfl) <| CN (SO (v := zbb _ _ _ _ _ _) hst zbp rfl rfl .u5 fun w hst => ?_)
       refine AB rfl <| NL <| zai Tryz.func74 rfl (zal (vs := zbg _ _ _ _ _ _) rfl zbp rfl rfl (zac (n := 4) (hst.objL Q5) _ rfl)) (TP (v := .bool _) rfl) ?_
       replace hst := hst.pick (.cons .u0 .nil)
       exact .inl ⟨_, _, _, _, _, _, _, _, _, hC.noid g53 hk96 hd96 he96, rfl, hst.noD⟩
      ·replace hst := hst.call1 hp
       clear hp
       refine CN <| zad (v := .tuple #[.int .u32 _, .bool _]) rfl <| CN <| Ex (.int .u32 _) rfl rfl <| CN <| Ex (.bool _) rfl rfl <| CN <| zaa zdK rfl <| CN (SO (v := .int .u32 _) hst zbt rfl rfl .u1 fun w hst => ?_)
       refine AB rfl <| NSR <| MB rfl <| CN <| zaZ rfl <| NL <| zat (Vb (congrArg not (rfl : true = _))) <| zaf ?_
       replace hst := hst.pick (.cons .u1 (.cons .u0 (.cons .u0 (.cons .u0 (.cons .u0 (.cons .u0 .nil))))))
       exact cut18 ((idL (l.getD (m + 1) zaR).text bound, m + 2)) _ w (hst) (LnI.yes hC g53 rfl he96 hk96 hd96) E5 trivial
     refine zaf ?_
     exact cut18 ((0, m + 1)) _ w (hst) (LnI.no hC (by simpa using g53)) E5 trivial
   ·refine SR <| MB rfl <| NL <| zab rfl (fun g54 => ?_) (fun g54 => ?_)
    ·refine SR <| MP rfl <| CN <| zaa zbl rfl <| CN (zae (v := str _) ty9 rfl rfl (hst.cellL Q2 rfl) ?_)
     obtain ⟨m0, hm0⟩ := hpl 0 h0 g54
     replace hst := hst.pick (.cons .u1 (.cons .u0 (.cons .u0 (.cons .u0 (.cons .u0 (.cons .u0 .nil))))))
     refine CN (zaz (v1 := Pp _ _) (v2 := str _) zxm rfl rfl rfl ((zlV _ _ _ _ _ _ _ _ _ _ m0 hm0 _ (hst.hL _ Q0) hbd).mono fun v w hp => ?_))
     obtain ⟨rfl, hp⟩ := hp
     replace hst := hst.call1 hp
     clear hp
     refine CN <| zaa zeb rfl <| CN (SO (v := .int .u32 _) hst zbt rfl rfl .u1 fun w hst => ?_)
     refine NSR <| CN <| zaa zeb rfl <| CN <| zae (v := .int .u32 _) zbt rfl rfl (hst.cellL Q1 rfl) <| CN <| zak rfl rfl <| NL <| zab rfl (fun g55 => ?_) (fun g55 => ?_)
     ·refine SQ ?_
      apply RunD.start [(4, Res.row bq 130 _, Res.emp)] hst (bs := [0, 0, 0, 4, 14, 31, 63]) (ds := [some 87, some 88, some 89, some 90, some 91, none, some 3]) (htab := ⟨Kr, Kr, Kr⟩)
      intro tab56
      refine DO tab56 1 (fun f' L' w' hc=> zar (vs := zbg _ _ _ _ _ _) zbp rfl (hc.old (v := Pp _ _) rfl rfl rfl) rfl (zac (n := 4) (hc.st.objL (List.mem_append_right _ Q0)) _ rfl) hc.z) <| DO tab56 2 (fun f' L' w' hc=> zad (v := Pp _ _) (hc.old rfl rfl rfl) hc.z) <| DO tab56 3 (fun f' L' w' hc=> zaa zb4 (hc.old (v := Pp _ _) rfl rfl rfl) hc.z) <| DO tab56 4 (fun f' L' w' hc=> zae (v := .int .i64 _) ty3 rfl (hc.d 2 rfl rfl rfl rfl) (hc.st.cellL (List.mem_append_right _ Q1) rfl) hc.z) <| zd9 (fun g v rs => v = .bool false ∧ rs = [Res.row bq 130 [str s, .slice (some ⟨bT, 0, none⟩) l.length cp, .int .i64 (((m + 1 : Nat) : Int) : Int), .int .u32 bound, .int .i64 43, .int .i64 ((l.getD 0 zaR).at_)]]) tab56 5 Q0 (fun f' L' L'' w' hc ⟨X, hrem, hX⟩ => zbD (v1 := Pp _ _) (v2 := .int .i64 _) (v3 := .int .i64 _) zec rfl (hc.d 1 rfl rfl rfl rfl) rfl (hc.d 3 rfl rfl rfl rfl) ((zbY bq s _ cp l (m + 1) bound e p 43 ((l.getD 0 zaR).at_) _ (hc.st.hL _ hrem.mem2)).mono fun v w hp => ⟨[_], fun g hg => ⟨hp.1, rfl⟩, hX _ _ (St.callRem hc.st hrem hp.2)⟩)) <| RunD.fin zaw tab56 hst rfl (fun f57 w R60 hs58 hd59 hr61 hst => ?_)
      obtain ⟨h87_, r0⟩ := hd59 0 87 rfl rfl
      obtain ⟨h88_, r1⟩ := hd59 1 88 rfl rfl
      obtain ⟨h89_, r2⟩ := hd59 2 89 rfl rfl
      obtain ⟨h90_, r3⟩ := hd59 3 90 rfl rfl
      obtain ⟨h91_, r4⟩ := hd59 4 91 rfl rfl
      simp only [rg5, Fc, Fn, Mc, Mn, r0, r1, r2, r3, r4, Na, An, Ca] at hst
      refine zaD (sl := [(2, Pp _ _), (87, zbb _ _ _ _ _ _), (91, .bool _)]) ⟨(hs58 2 rfl).trans rfl, h87_, h91_, trivial⟩ ?_
      clear hs58 hd59 hr61 tab56
      refine CN (SO (v := zbb _ _ _ _ _ _) hst zbp rfl rfl .u6 fun w hst => ?_)
      refine AB rfl <| NL <| zai Tryz.func74 rfl (zal (vs := zbg _ _ _ _ _ _) rfl zbp rfl rfl (zac (n := 4) (hst.objL Q6) _ rfl)) (TP (v := .bool _) rfl) ?_
      replace hst := hst.pick (.cons .u0 .nil)
      exact .inl ⟨_, _, _, _, _, _, _, _, _, hB.noid hrs g54 g55, rfl, hst.noD⟩
     refine zaf ?_
     replace hst := hst.pick (.cons .u1 (.cons .u0 (.cons .u0 (.cons .u0 (.cons .u0 (.cons .u0 .nil))))))
     exact cut16 ((idL (l.getD 0 zaR).text bound)) _ w (hst) (⟨fun _ => ⟨rfl, g55⟩, fun q => absurd g54 q⟩) E5 trivial
    refine zaf ?_
    exact cut16 (0) _ w (hst) (⟨fun q => absurd q g54, fun _ => rfl⟩) E5 trivial
 ·refine SR <| MB rfl <| CN <| zin rfl <| NL <| zab rfl (fun g62 => ?_) (fun g62 => ?_)
  ·refine zjg rfl (SQ (zaf ?_))
   exact cut1 (0) _ w (hst) (LnA.start h0 g62) E8 trivial
  refine zaf <| SR <| MP rfl <| CN <| zaK rfl <| CN <| zaa zdw rfl <| CN <| zae (v := .int .i64 _) ty3 rfl rfl (hst.cellL Q0 rfl) <| CN <| zas rfl rfl rfl zbe <| CN <| zaK rfl <| CN <| zaa zdw rfl <| CN (SO (v := .int .i64 _) hst ty3 rfl rfl .u0 fun w hst => ?_)
  refine NL <| SQ <| SR <| MP rfl <| CN (zaz (v1 := Pp _ _) (v2 := .int .u8 _) zko rfl rfl rfl ((zeN _ _ _ _ l 1 _ _ _ 5 _ (hst.hL _ Q0) (hst.hD _ Q0) (hst.sepD _ Q0 _ Q0) hl hll hts).mono fun v w hp => ?_))
  rcases hp with ⟨hk39, rfl, hp⟩ | ⟨hk39, hd39, rfl, hp⟩ | ⟨hk39, hd39, rfl, hp⟩
  ·replace hst := hst.call1 hp
   clear hp
   refine CN <| zad (v := .tuple #[zbO _ _ _, .bool _]) rfl <| CN <| Ex (zbO _ _ _) rfl rfl <| CN <| Ex (.bool _) rfl rfl <| AB rfl <| NSR <| MB rfl <| CN <| zaZ rfl <| NL <| zax (Vb (congrArg not (rfl : false = _))) <| SR <| CN <| zar (vs := zbg _ _ _ _ _ _) zbp rfl rfl rfl (zac (n := 4) (hst.objL Q4) _ rfl) <| CN (SO (v := zbb _ _ _ _ _ _) hst zbp rfl rfl .u5 fun w hst => ?_)
   refine AB rfl <| NL <| zai Tryz.func74 rfl (zal (vs := zbg _ _ _ _ _ _) rfl zbp rfl rfl (zac (n := 4) (hst.objL Q5) _ rfl)) (TP (v := .bool _) rfl) ?_
   replace hst := hst.pick (.cons .u0 .nil)
   exact .inl ⟨_, _, _, _, _, _, _, _, _, zqS (Nn g62) h0 hk39, rfl, hst.noD⟩
  ·replace hst := hst.call1 hp
   clear hp
   refine CN <| zad (v := .tuple #[zbO _ _ _, .bool _]) rfl <| CN <| Ex (zbO _ _ _) rfl rfl <| CN <| Ex (.bool _) rfl rfl <| AB rfl <| NSR <| MB rfl <| CN <| zaZ rfl <| NL <| zax (Vb (congrArg not (rfl : false = _))) <| SR <| CN <| zar (vs := zbg _ _ _ _ _ _) zbp rfl rfl rfl (zac (n := 4) (hst.objL Q4) _ rfl) <| CN (SO (v := zbb _ _ _ _ _ _) hst zbp rfl rfl .u5 fun w hst => ?_)
   refine AB rfl <| NL <| zai Tryz.func74 rfl (zal (vs := zbg _ _ _ _ _ _) rfl zbp rfl rfl (zac (n := 4) (hst.objL Q5) _ rfl)) (TP (v := .bool _) rfl) ?_
   replace hst := hst.pick (.cons .u0 .nil)
   exact .inl ⟨_, _, _, _, _, _, _, _, _, znO (Nn g62) hk39 hd39, rfl, hst.noD⟩
  ·replace hst := hst.call1 hp
   clear hp
   refine CN <| zad (v := .tuple #[zbO _ _ _, .bool _]) rfl <| CN <| Ex (zbO _ _ _) rfl rfl <| CN <| Ex (.bool _) rfl rfl <| AB rfl <| NSR <| MB rfl <| CN <| zaZ rfl <| NL <| zat (Vb (congrArg not (rfl : true = _))) <| zaf <| SQ <| zhQ ?_
   exact cut1 (2) _ w (hst) (LnA.said (Nn g62) hk39 hd39) E8 trivial
end Go.SK
namespace Go.SK
open Go Go.Proofs
theorem ent74 : zaN Tryz.prog 74 := ⟨Tryz.f74, _, Tryz.func74, Kr, rfl⟩
end Go.SK
namespace Go.SK
open Go Go.Proofs
open Go.RowKit
theorem zu7 (s : Tx) (bound : Int) (w : World) (hG : LxG.holds w) (hl : s.length ≤ 1099511627776) (hl24 : s.length ≤ 16777216) (hbd : 0 ≤ bound ∧ bound < 4294967296) : Ret Tryz.prog 36 #[str s, .int .u32 bound] w (fun v w' => ∃ xo xc, (zaT s bound).1.Sm ∧ v = .tuple #[.agg #[.int .u16 (zaT s bound).1.op, .int .u32 (zaT s bound).1.ty, .int .u32 (zaT s bound).1.res, .slice xo (zaT s bound).1.args.length xc], .bool (zaT s bound).2.1, .agg #[.int .i64 (zaT s bound).2.2.1, .int .i64 (zaT s bound).2.2.2]] ∧ St w NoM [Res.sl xo (zaT s bound).1.args.length xc 110 3 ((zaT s bound).1.args.flatMap zff)] [] w') := by
 refine zav (args := [str s, .int .u32 bound]) Tryz.func36 rfl rfl rfl ?_
 have hst : St w NoM [] [LxG] w := St.init_Ds (by simp only [List.forall_mem_cons]; exact ⟨hG, fun _ h => absurd h List.not_mem_nil⟩)
 refine SR <| CN <| Op1.alloc hst zbp fun w b4 hst => AB rfl <| CN <| Op1.alloc hst za0 fun w b6 hst => NSR <| MS rfl <| MU rfl <| CN (zaz (v1 := str _) (v2 := .int .u32 _) ent72 rfl rfl rfl ((zoY s bound _ (hst.hD _ Q0) hl).mono fun v w hp => ?_))
 obtain ⟨bq, ao, cp, rfl, hp⟩ := hp
 replace hst := hst.call0 hp
 clear hp
 refine CN <| zad (v := .tuple #[Pp _ _, gII _ _]) rfl <| CN <| Ex (Pp _ _) rfl rfl <| CN <| Ex (gII _ _) rfl rfl <| CN <| Op1.alloc hst za0 fun w b8 hst => AP rfl <| CN (SO (v := gII _ _) hst za0 rfl rfl .u0 fun w hst => ?_)
 refine NL <| SQ <| SQ ?_
 replace hst := hst.pick (.cons .u0 (.cons .u0 (.cons .u1 (.cons .u1 (.cons .u0 .nil)))))
 replace hst := hst.toD (L1 := [_, _, _, _]) (L2 := [_])
 refine RG <| CN <| zaa zbr rfl <| CN <| zae (v := .int .i64 _) zcO rfl rfl (hst.cellL Q0 rfl) <| CN <| zaW rfl rfl <| MB rfl <| zan (d := 20) rfl (fun g1 => ?_) (fun g1 => ?_)
 ·refine OM (t := 20) rfl (Vb (Dt g1)) rfl <| OM (t := 20) rfl (Vb (Dt g1)) rfl <| OM (t := 20) rfl (Vb (Dt g1)) rfl <| CN <| zap (u := .bool _) (Vb (Dt g1)) rfl <| NL <| zax (Vb (rfl : true = _)) <| SQ ?_
  replace hst := hst.pick (.cons .u3 (.cons .u0 (.cons .u0 (.cons .u0 .nil))))
  apply RunD.start [(2, Res.row b4 44 _, Res.row b4 44 _)] hst (bs := [0, 0, 1, 5, 15]) (ds := [some 25, some 26, none, some 5, none]) (htab := ⟨Kr, Kr, Kr⟩)
  intro tab2
  refine DO tab2 1 (fun _ _ _ hc => zag zbp ztk .nil hc.z) ?_
  refine DO tab2 2 (fun f' L' w' hc=> zar (vs := lII _ _) za0 rfl (hc.old (v := Pp _ _) rfl rfl rfl) rfl (zac (n := 2) (hc.st.objL (List.mem_append_right _ Q0)) _ rfl) hc.z) <| zcd tab2 3 Q0 (fun f' L' L2 w' hc hsel => zbC (v := zbb _ _ _ _ _ _) hc.st zbp (hc.old (v := Pp _ _) rfl rfl rfl) (hc.d 0 rfl rfl rfl rfl) rfl rfl rfl hsel (by repeat (first | exact Put.nil | apply Put.put | apply Put.skip)) fun w hst => ⟨rfl, hst⟩) ?_
  refine DO tab2 4 (fun _ _ _ hc => Op1.assign (v := .bool _) rfl hc.z) <| RunD.fin zaw tab2 hst rfl (fun f3 w R6 hs4 hd5 hr7 hst => ?_)
  obtain ⟨h25_, r0⟩ := hd5 0 25 rfl rfl
  obtain ⟨h26_, r1⟩ := hd5 1 26 rfl rfl
  obtain ⟨_, _, r2⟩ := hr7 2 rfl
  obtain ⟨h5_, r3⟩ := hd5 3 5 rfl rfl
  simp only [rg4, Fc, Fn, Mc, Mn, r0, r1, r2, r3, Na, An, Ca] at hst
  refine zaD (sl := [(4, Pp _ _), (5, .bool _), (6, Pp _ _), (26, gII _ _)]) ⟨(hs4 4 rfl).trans rfl, h5_, (hs4 6 rfl).trans rfl, h26_, trivial⟩ ?_
  clear hs4 hd5 hr7 tab2
  refine CN (SO (v := gII _ _) hst za0 rfl rfl .u3 fun w hst => ?_)
  refine NL <| zbf Tryz.func36 rfl (zal (vs := zbg _ _ _ _ _ _) rfl zbp rfl rfl (zac (n := 4) (hst.objL Q0) _ rfl)) (TP (v := .bool _) rfl) (zal (vs := lII _ _) rfl za0 rfl rfl (zac (n := 2) (hst.objL Q3) _ rfl)) ?_
  replace hst := hst.pick .nil
  have he : zaT s bound = (zeroIL, false, (za7 s).2) := znR g1
  rw [he]
  exact ⟨none, 0, zb7, rfl, (hst.pushNil 110 3).noD⟩
 refine TK (t := 20) rfl (Vb (Df g1)) (zad (v := Pp _ _) rfl ?_)
 replace hst := hst.pick (.cons .u1 (.cons .u0 (.cons .u0 (.cons .u0 .nil))))
 refine TK (t := 20) rfl (Vb (Df g1)) (Op1.call1 (v1 := Pp _ _) zuf rfl rfl ((zgC _ _ _ _ _ 0 _ _ _ _ (hst.hL _ Q0)).mono fun v w hp => ?_))
 obtain ⟨rfl, hp⟩ := hp
 replace hst := hst.call1 hp
 clear hp
 refine TK (t := 20) rfl (Vb (Df g1)) <| zin rfl <| CN <| zaq (u := .bool _) (Vb (Df g1)) rfl <| NL <| zaj [(4, Pp _ _), (6, Pp _ _), (7, Pp _ _), (8, Pp _ _), (24, .bool _)] E5 fun f => zab rfl (fun g8 => ?_) (fun g8 => ?_)
 ·refine SQ ?_
  replace hst := hst.pick (.cons .u3 (.cons .u0 (.cons .u0 (.cons .u0 .nil))))
  apply RunD.start [(2, Res.row b4 44 _, Res.row b4 44 _)] hst (bs := [0, 0, 1, 5, 15]) (ds := [some 25, some 26, none, some 5, none]) (htab := ⟨Kr, Kr, Kr⟩)
  intro tab9
  refine DO tab9 1 (fun _ _ _ hc => zag zbp ztk .nil hc.z) ?_
  refine DO tab9 2 (fun f' L' w' hc=> zar (vs := lII _ _) za0 rfl (hc.old (v := Pp _ _) rfl rfl rfl) rfl (zac (n := 2) (hc.st.objL (List.mem_append_right _ Q1)) _ rfl) hc.z) <| zcd tab9 3 Q0 (fun f' L' L2 w' hc hsel => zbC (v := zbb _ _ _ _ _ _) hc.st zbp (hc.old (v := Pp _ _) rfl rfl rfl) (hc.d 0 rfl rfl rfl rfl) rfl rfl rfl hsel (by repeat (first | exact Put.nil | apply Put.put | apply Put.skip)) fun w hst => ⟨rfl, hst⟩) ?_
  refine DO tab9 4 (fun _ _ _ hc => Op1.assign (v := .bool _) rfl hc.z) <| RunD.fin zaw tab9 hst rfl (fun f10 w R13 hs11 hd12 hr14 hst => ?_)
  obtain ⟨h25_, r0⟩ := hd12 0 25 rfl rfl
  obtain ⟨h26_, r1⟩ := hd12 1 26 rfl rfl
  obtain ⟨_, _, r2⟩ := hr14 2 rfl
  obtain ⟨h5_, r3⟩ := hd12 3 5 rfl rfl
  simp only [rg4, Fc, Fn, Mc, Mn, r0, r1, r2, r3, Na, An, Ca] at hst
  refine zaD (sl := [(4, Pp _ _), (5, .bool _), (6, Pp _ _), (26, gII _ _)]) ⟨(hs11 4 rfl).trans rfl, h5_, (hs11 6 rfl).trans rfl, h26_, trivial⟩ ?_
  clear hs11 hd12 hr14 tab9
  refine CN (SO (v := gII _ _) hst za0 rfl rfl .u3 fun w hst => ?_)
  refine NL <| zbf Tryz.func36 rfl (zal (vs := zbg _ _ _ _ _ _) rfl zbp rfl rfl (zac (n := 4) (hst.objL Q0) _ rfl)) (TP (v := .bool _) rfl) (zal (vs := lII _ _) rfl za0 rfl rfl (zac (n := 2) (hst.objL Q3) _ rfl)) ?_
  replace hst := hst.pick .nil
  have he : zaT s bound = (zeroIL, false, (za7 s).2) := zlA g1 (by have := g8; simp at this; omega)
  rw [he]
  exact ⟨none, 0, zb7, rfl, (hst.pushNil 110 3).noD⟩
 have h0 : 0 < (za7 s).1.length := by have := g8; simp at this; omega
 refine zaf <| SR <| MP rfl <| CN (Op1.call1 (v1 := Pp _ _) ent74 rfl rfl ((zu3 _ s _ _ (za7 s).1 bound _ _ _ Om (hst.hL _ Q0) (hst.hD _ Q0) (hst.sepD _ Q0 _ Q0) hl (zhH s) (zgi s) hl24 (hst.hD _ Q1) (hst.sepD _ Q0 _ Q1) hbd (zfG s)).mono fun v w hp => ?_))
 rcases hp with ⟨q1, q2, o1, t1, r1, xo, xn, xc, a2, hq, rfl, hp⟩ | ⟨x, a2, hq, hsm, hla, hxo, rfl, hp⟩
 ·replace hst := hst.call1 hp
  clear hp
  refine CN <| zad (v := .tuple #[zbb _ _ _ _ _ _, .bool _]) rfl <| CN <| Ex (zbb _ _ _ _ _ _) rfl rfl <| CN <| Ex (.bool _) rfl rfl <| CN <| Op1.alloc hst zbp fun w b9 hst => CN (SO (v := zbb _ _ _ _ _ _) hst zbp rfl rfl .u0 fun w hst => ?_)
  refine AB rfl <| NL <| SQ <| SR <| MB rfl <| CN <| zaZ rfl <| NL <| zax (Vb (congrArg not (rfl : false = _))) <| SQ ?_
  replace hst := hst.pick (.cons .u4 (.cons .u0 (.cons .u0 (.cons .u0 (.cons .u0 .nil)))))
  apply RunD.start [(5, Res.row b4 44 _, Res.row b4 44 _)] hst (bs := [0, 0, 2, 6, 14, 1, 33, 127]) (ds := [some 34, some 35, some 36, some 37, some 38, none, some 5, none]) (htab := ⟨Kr, Kr, Kr⟩)
  intro tab15
  refine DO tab15 1 (fun _ _ _ hc => zag zbp ztk .nil hc.z) ?_
  refine DO tab15 2 (fun f' L' w' hc=> zad (v := Pp _ _) (hc.old rfl rfl rfl) hc.z) <| DO tab15 3 (fun f' L' w' hc=> zaK (hc.d 1 rfl rfl rfl rfl) hc.z) <| DO tab15 4 (fun f' L' w' hc=> zaa zmz (hc.d 2 rfl rfl rfl rfl) hc.z) <| DO tab15 5 (fun f' L' w' hc=> zar (vs := lII _ _) za0 rfl (hc.d 3 rfl rfl rfl rfl) rfl (zac (n := 2) (hc.st.objL (List.mem_append_right _ Q1)) _ rfl) hc.z) <| zcd tab15 6 Q0 (fun f' L' L2 w' hc hsel => zbC (v := zbb _ _ _ _ _ _) hc.st zbp (hc.old (v := Pp _ _) rfl rfl rfl) (hc.d 0 rfl rfl rfl rfl) rfl rfl rfl hsel (by repeat (first | exact Put.nil | apply Put.put | apply Put.skip)) fun w hst => ⟨rfl, hst⟩) ?_
  refine DO tab15 7 (fun _ _ _ hc => Op1.assign (v := .bool _) rfl hc.z) <| RunD.fin zaw tab15 hst rfl (fun f16 w R19 hs17 hd18 hr20 hst => ?_)
  obtain ⟨h34_, r0⟩ := hd18 0 34 rfl rfl
  obtain ⟨h35_, r1⟩ := hd18 1 35 rfl rfl
  obtain ⟨h36_, r2⟩ := hd18 2 36 rfl rfl
  obtain ⟨h37_, r3⟩ := hd18 3 37 rfl rfl
  obtain ⟨h38_, r4⟩ := hd18 4 38 rfl rfl
  obtain ⟨_, _, r5⟩ := hr20 5 rfl
  obtain ⟨h5_, r6⟩ := hd18 6 5 rfl rfl
  simp only [rg7, Fc, Fn, Mc, Mn, r0, r1, r2, r3, r4, r5, r6, Na, An, Ca] at hst
  refine zaD (sl := [(4, Pp _ _), (5, .bool _), (6, Pp _ _), (38, gII _ _)]) ⟨(hs17 4 rfl).trans rfl, h5_, (hs17 6 rfl).trans rfl, h38_, trivial⟩ ?_
  clear hs17 hd18 hr20 tab15
  refine CN (SO (v := gII _ _) hst za0 rfl rfl .u4 fun w hst => ?_)
  refine NL <| zbf Tryz.func36 rfl (zal (vs := zbg _ _ _ _ _ _) rfl zbp rfl rfl (zac (n := 4) (hst.objL Q0) _ rfl)) (TP (v := .bool _) rfl) (zal (vs := lII _ _) rfl za0 rfl rfl (zac (n := 2) (hst.objL Q4) _ rfl)) ?_
  replace hst := hst.pick .nil
  have he := (zcC (bound := bound) g1).trans hq
  rw [he]
  exact ⟨none, 0, zb7, rfl, (hst.pushNil 110 3).noD⟩
 ·replace hst := hst.call1 hp
  clear hp
  refine CN <| zad (v := .tuple #[zbb _ _ _ _ _ _, .bool _]) rfl <| CN <| Ex (zbb _ _ _ _ _ _) rfl rfl <| CN <| Ex (.bool _) rfl rfl <| CN <| Op1.alloc hst zbp fun w b9 hst => CN (SO (v := zbb _ _ _ _ _ _) hst zbp rfl rfl .u0 fun w hst => ?_)
  refine AB rfl <| NL <| SQ <| SR <| MB rfl <| CN <| zaZ rfl <| NL <| zat (Vb (congrArg not (rfl : true = _))) <| zaf <| SR <| CN <| zar (vs := zbg _ _ _ _ _ _) zbp rfl rfl rfl (zac (n := 4) (hst.objL Q0) _ rfl) <| CN (zag za0 zcE .nil ?_)
  refine CN (SO (v := zbb _ _ _ _ _ _) hst zbp rfl rfl .u5 fun w hst => ?_)
  refine AB rfl <| CN (SO (v := gII _ _) hst za0 rfl rfl .u4 fun w hst => ?_)
  refine NL <| zbf Tryz.func36 rfl (zal (vs := zbg _ _ _ _ _ _) rfl zbp rfl rfl (zac (n := 4) (hst.objL Q5) _ rfl)) (TP (v := .bool _) rfl) (zal (vs := lII _ _) rfl za0 rfl rfl (zac (n := 2) (hst.objL Q4) _ rfl)) ?_
  replace hst := hst.pick (.cons .u2 .nil)
  have he := (zcC (bound := bound) g1).trans hq
  rw [he]
  exact ⟨x.ao, x.cap, ⟨hsm, hla, hxo⟩, rfl, hst.noD⟩
end Go.SK
namespace Go.SK
open Go Go.Proofs
theorem ent36 : zaN Tryz.prog 36 := ⟨Tryz.f36, _, Tryz.func36, Kr, rfl⟩
end Go.SK
namespace Go.SK
open Go Go.Proofs
open Go.RowKit
theorem zjb (t : Tx) (hl : t.length ≤ 140737488355328) (bc : Nat) (w : World) (hb : (Res.row bc 9 [str t]).holds w) : zvg Tryz.prog 81 [.pointer (some ⟨bc, 0, none⟩)] (lnF t).length (itemV (fun j => [.int .i64 ((j : Int) + 1), str ((lnF t).getD j [])])) (· = bc) w := by
 intro σ I JJ yv R S s0 hI0 hR hFD hy
 have hlnl := zh1 t
 have hyx : ∀ (i : Nat) (r : Tx) (q : σ), lnR t i r → r ≠ [] → I i q → ∀ w1, St w (R 0 s0).foot [R i q] [] w1 → CallV Tryz.prog yv [.int .i64 ((i : Int) + 1), str (zfE r)] w1 fun v w2 => (v = .bool true ∧ ∃ q', I (i + 1) q' ∧ St w1 (R i q).foot [R (i + 1) q'] [] w2) ∨ (v = .bool false ∧ ∃ q', JJ i q' ∧ St w1 (R i q).foot [S i q'] [] w2) := fun i r q hI hr hs w1 hw1 => by
  obtain ⟨h1, h2, _⟩ := zhj hI hr
  have t := hy i q _ _ h1 hs ⟨rfl, rfl⟩ w1 hw1.starNil
  rw [zrJ] at t
  dsimp only at t
  rwa [h2] at t
 refine zav (args := [yv, .pointer (some ⟨bc, 0, none⟩)]) Tryz.func81 rfl rfl rfl ?_
 have hst : St w (R 0 s0).foot [R 0 s0] [Res.row bc 9 [str t]] w := St.enter1 hR (fun d hd => by cases hd with | head => exact hb | tail _ h => cases h) (fun d hd => by cases hd with | head => exact fun b hb hb2 => hFD b hb hb2 | tail _ h => cases h)
 refine SQ <| RunD.start [] hst (bs := [0, 0, 3]) (ds := [some 8, some 3, some 4]) ⟨Kr, Kr, Kr⟩ (fun tab1 => ?_)
 refine DO tab1 1 (fun f' L' w' hc=> zae (v := str _) ty9 rfl (hc.old (v := Pp _ _) rfl rfl rfl) (hc.st.cellD Q0 rfl) hc.z) <| DO tab1 2 (fun _ _ _ hc => Op1.assign (v := .int .i64 _) rfl hc.z) <| RunD.fin zaw tab1 hst rfl (fun f2 w R5 hs3 hd4 hr6 hst => ?_)
 obtain ⟨h8_, r0⟩ := hd4 0 8 rfl rfl
 obtain ⟨h3_, r1⟩ := hd4 1 3 rfl rfl
 simp only [rg2, Fc, Fn, Mc, Mn, r0, r1, Na, An, Ca] at hst
 refine zaD (sl := [(0, _), (3, .int .i64 _), (8, str _)]) ⟨(hs3 0 rfl).trans rfl, h3_, h8_, trivial⟩ ?_
 clear hs3 hd4 hr6 tab1
 refine AS rfl <| NL <| zao <| zaV <| zaU [(0, _)] ⟨rfl, trivial⟩ (fun (qq : Nat × Tx × σ) => [(3, .int .i64 ((qq.1 : Int) + 1)), (4, str qq.2.1)]) (fun (qq : Nat × Tx × σ) => [R qq.1 qq.2.2]) (fun (qq : Nat × Tx × σ) => lnR t qq.1 qq.2.1 ∧ I qq.1 qq.2.2) (fun (qq : Nat × Tx × σ) => qq.2.1.length) ((0, t, s0)) hst ⟨znL t, hI0⟩ E2 ?_
 intro ⟨i, r, q⟩ f w hst hJ ih7
 replace hst : St _ _ ([R i q] ++ []) _ _ := hst
 replace hJ : lnR t i r ∧ I i q := hJ
 refine za2 (sl := [(3, .int .i64 ((i : Int) + 1)), (4, str r)]) E2 ?_
 have hj1 := hJ.1.1
 have hj3 := hJ.1.2.2
 refine SQ <| SR <| MS rfl <| CN <| zcN rfl rfl <| NL <| zab rfl (fun g8 => ?_) (fun g8 => ?_)
 ·have hri := (zhj hJ.1 g8).1
  refine zaf <| SQ <| zao <| SR <| MS rfl <| CN <| zaz (v1 := str _) (v2 := str _) ent82 rfl rfl rfl <| Ret.det (zrp r _ Om) hst fun w hst => CN <| zad (v := .tuple #[str _, str _, .bool _]) rfl <| CN <| Ex (str _) rfl rfl <| CN <| Ex (str _) rfl rfl <| CN <| Ex (.bool _) rfl rfl <| AS rfl <| AS rfl <| AB rfl <| NL ?_
  refine SQ <| SR <| CN <| zad (v := _) rfl <| MI rfl <| MS rfl <| CN (zg9 (v1 := .int .i64 _) (v2 := str _) rfl rfl rfl ((hyx i r q hJ.1 g8 hJ.2 _ hst.one).mono fun v w hp => ?_))
  rcases hp with ⟨rfl, q2, hI2, hp⟩ | ⟨rfl, q2, hI2, hp⟩
  ·replace hst := hst.call1 hp
   clear hp
   refine CN <| zaZ rfl <| NL <| zat (Vb (congrArg not (rfl : true = _))) <| zaf <| RG <| MS rfl <| AS rfl <| NL <| zam <| RG <| MI rfl <| CN <| zas rfl rfl rfl zbe <| AI rfl <| NL <| zay ?_
   exact ih7 ((i + 1, zhd r, q2)) _ w ((by (try dsimp only); have h := (zhj hJ.1 g8).2.2.2; omega)) hst (⟨(zhj hJ.1 g8).2.2.1, hI2⟩) ⟨rfl, trivial⟩ ⟨(Vi Od), rfl, trivial⟩
  ·replace hst := hst.call1 hp
   clear hp
   refine CN <| zaZ rfl <| NL <| zax (Vb (congrArg not (rfl : false = _))) <| zjf Tryz.func81 rfl  ?_
   replace hst := hst.pick (.cons .u0 .nil)
   exact .inr ⟨i, q2, (zhj hJ.1 g8).1, hI2, hst.one⟩
 refine zaJ (id := 0) rfl <| zef Tryz.func81 rfl  ?_
 replace hst := hst.pick (.cons .u0 .nil)
 obtain rfl : r = [] := Nn g8
 obtain rfl := ztQ hJ.1
 exact .inl ⟨q, hJ.2, hst.one⟩
theorem zu2 (p : InstP) (bound : Int) (hop : 0 ≤ p.op) (hf : zbu bound p.L = 0) (w : World) (hA : (Res.rargs p).holds w) (hsm : (p.args.map za1).sum ≤ 900000000) (hla : ∀ a ∈ p.args, a.s.length ≤ 100000000000) : Ret Tryz.prog 45 #[.agg #[.int .u16 p.op, .int .u32 p.ty, .int .u32 p.res, .slice p.ao p.args.length p.cap], .int .u32 bound] w (fun v w' => v = .int .i64 ((zbT (zbq p.op) p.args : Nat) : Int) ∧ St w NoM [] [] w') := by
 refine zav (args := [.agg #[.int .u16 p.op, .int .u32 p.ty, .int .u32 p.res, .slice p.ao p.args.length p.cap], .int .u32 bound]) Tryz.func45 rfl rfl rfl ?_
 have hst : St w NoM [] [Res.rargs p] w := St.init_D hA
 have hsz := zmj hf
 refine SR <| CN <| zbi (v := zbb _ _ _ _ _ _) hst rfl rfl fun w b2 hst => AI rfl <| NSR <| CN <| zar (vs := zbg _ _ _ _ _ _) zbp rfl rfl rfl (zac (n := 4) (hst.objL Q0) _ rfl) <| MU rfl <| CN (zaz (v1 := zbb _ _ _ _ _ _) (v2 := .int .u32 _) zug rfl rfl rfl ((zrt p bound hop _ (hst.hD _ Q0) hsm hla).mono fun v w hp => ?_))
 obtain ⟨ro, rc, rfl, hp⟩ := hp
 replace hst : St _ _ (_ :: _) _ _ := hst.call0 hp
 clear hp
 refine CN <| zad (v := .tuple #[gHL _ _ _ _, .int .i64 _]) rfl <| CN <| Ex (gHL _ _ _ _) rfl rfl <| CN <| Ex (.int .i64 _) rfl rfl <| CN <| Op1.alloc hst zeR fun w b5 hst => CN (SO (v := gHL _ _ _ _) hst zeR rfl rfl .u0 fun w hst => ?_)
 refine AI rfl <| NSR <| CN <| zaa zdJ rfl <| CN <| zae (v := .slice _ _ _) ze7 rfl rfl (hst.cellL Q0 rfl) <| CN <| zaQ (rest := []) ze7 rfl <| CN <| zas rfl rfl rfl zbe <| AI rfl <| NL <| zah Tryz.func45 rfl (TP (v := .int .i64 _) rfl) ?_
 exact ⟨Vi (by have h1 := hsz.1; have h2 : zbT (zbq p.L.op) p.L.args = zbT (zbq p.op) p.args := rfl; omega), hst.pure⟩
end Go.SK
namespace Go.SK
open Go Go.Proofs
theorem ent44 : zaN Tryz.prog 44 := ⟨Tryz.f44, _, Tryz.func44, Kr, rfl⟩
theorem ent45 : zaN Tryz.prog 45 := ⟨Tryz.f45, _, Tryz.func45, Kr, rfl⟩
end Go.SK
namespace Go.SK
open Go Go.Proofs
open Go.RowKit
theorem ziQ (s : Tx) (w : World) (hG : LxG.holds w) (hl : s.length ≤ 140737488355328) : Ret Tryz.prog 17 #[str s] w (fun v w' => ∃ ao cp dm, dm.map InstP.L = (zbc s).1.2.2 ∧ v = .tuple #[.agg #[.int .u32 (zbc s).1.1, .int .u32 (zbc s).1.2.1, .slice ao dm.length cp], .agg #[.int .i64 (zbc s).2.1, .int .i64 (zbc s).2.2]] ∧ (dm.length ≤ 1048576 ∧ ∀ x ∈ dm, x.L.Sm) ∧ St w NoM [Res.omod 44 110 ao cp dm] [] w') := by
 refine zav (args := [str s]) Tryz.func17 rfl rfl rfl ?_
 have hst : St w NoM [] [LxG] w := St.init_Ds (by simp only [List.forall_mem_cons]; exact ⟨hG, fun _ h => absurd h List.not_mem_nil⟩)
 refine SR <| CN <| Op1.alloc hst zb3 fun w b2 hst => CN <| Op1.alloc hst za0 fun w b3 hst => NL <| SQ <| SR <| MS rfl <| CN <| zaL (rest := []) ty9 rfl <| CN <| zbm rfl rfl <| NL <| zab rfl (fun g1 => ?_) (fun g1 => ?_)
 ·refine SR <| CN (zag zb3 zpn .nil ?_)
  refine CN (zag za0 zcE (.c (v := .int .i64 _) rfl (h := .nil)) ?_)
  refine CN (SO (v := zb2 _ _ _ _ _) hst zb3 rfl rfl .u1 fun w hst => ?_)
  refine CN (SO (v := gII _ _) hst za0 rfl rfl .u0 fun w hst => ?_)
  refine NL <| zai Tryz.func17 rfl (zal (vs := zdH _ _ _ _ _) rfl zb3 rfl rfl (zac (n := 3) (hst.objL Q1) _ rfl)) (zal (vs := lII _ _) rfl za0 rfl rfl (zac (n := 2) (hst.objL Q0) _ rfl)) ?_
  replace hst := hst.pick .nil
  replace hst := St.starCons ((hst.starNil).pushNil 44 4)
  rw [ze1 (by omega)]
  exact ⟨none, 0, [], rfl, rfl, ⟨Nat.zero_le _, fun x h => by cases h⟩, hst.noD⟩
 refine zaf <| SR <| CN <| Op1.alloc hst zb3 fun w b4 hst => NSR <| CN <| Op1.alloc hst ty3 fun w b5 hst => CN <| Op1.alloc hst ty3 fun w b6 hst => CN (SO (v := .int .i64 _) hst ty3 rfl rfl .u1 fun w hst => ?_)
 refine CN (SO (v := .int .i64 _) hst ty3 rfl rfl .u0 fun w hst => ?_)
 refine NL <| SQ <| SR <| MS rfl <| CN (Op1.call1 (v1 := str _) ent39 rfl rfl ((zkF s _).mono fun v w hp => ?_))
 obtain ⟨bc, rfl, hp⟩ := hp
 replace hst := hst.call0 hp
 clear hp
 refine NL <| zao ?_
 replace hst := hst.pushNil 44 4
 replace hst := hst.starNil
 replace hst := hst.pick (.cons .u7 (.cons .u6 (.cons .u5 (.cons .u4 (.cons .u3 (.cons .u1 (.cons .u0 (.cons .u0 .nil))))))))
 refine zkP (L1 := [_, _, _, _, _, _, _]) (L2 := [_]) (item := (itemV (fun j => [.int .i64 ((j : Int) + 1), str ((lnF s).getD j [])]))) (FD := (· = bc)) (fun i (q : Int × Int × Nat × Option Addr × Nat × List InstP) => PaM s i q.1 q.2.1 q.2.2.1 q.2.2.2.2.2) (fun i (q : Int × Int × Nat × Option Addr × Nat × List InstP) => zfM 0 (lnF s) ⟨0, 0, 0, []⟩ = zhD q.1 ((i : Int) + 1)) (fun i (q : Int × Int × Nat × Option Addr × Nat × List InstP) => [Res.row b2 25 [.int .u32 0, .int .u32 0, .slice none 0 0], Res.row b3 28 [.int .i64 0, .int .i64 0], Res.row b4 25 [.int .u32 q.1, .int .u32 q.2.1, .slice q.2.2.2.1 q.2.2.2.2.2.length q.2.2.2.2.1], Res.row b5 3 [.int .i64 (i : Int)], Res.row b6 3 [.int .i64 (q.2.2.1 : Int)], Res.sl q.2.2.2.1 q.2.2.2.2.2.length q.2.2.2.2.1 44 4 (q.2.2.2.2.2.flatMap zdu), Res.star (q.2.2.2.2.2.map (Res.oargs 110))]) (fun i (q : Int × Int × Nat × Option Addr × Nat × List InstP) => [Res.row b2 25 [.int .u32 0, .int .u32 0, .slice none 0 0], Res.row b3 28 [.int .i64 q.1, .int .i64 ((i : Int) + 1)]]) (fun _ => .ret) ((0, 0, 0, none, 0, [])) (PaM.start) hst rfl rfl ent81 (fun b hb => .inl (by subst hb; exact ⟨_, Q0, rfl⟩)) (fun w1 hw1 => zjb s Om bc w1 (hw1.hL _ Q7)) (fun _ _ _ h => by obtain ⟨rfl, _⟩ := h; rfl) ?_ ?_ ?_
 ·intro i ⟨gn, bd, words, aq, cq, dm⟩ vs x hi hI hitem w bl br lp hlp hst hk
  obtain ⟨rfl, rfl⟩ := hitem
  dsimp only at hst hI
  have hxl := ztW s i
  have hmle := hI.le
  have hmln := hI.len
  have hlnl := zh1 s
  refine SR <| AI rfl <| NR <| AS rfl <| NL <| zfl hlp hst .u0 fun w hst => zao <| SR <| MI rfl <| CN (SO (v := .int .i64 _) hst ty3 rfl rfl .u6 fun w hst => ?_)
  refine NL <| SQ <| SR <| CN <| zae (v := .int .i64 _) ty3 rfl rfl (hst.cellL Q7 rfl) <| CN <| zak rfl rfl <| NL <| zab rfl (fun g2 => ?_) (fun g2 => ?_)
  ·refine SR <| MS rfl <| CN (Op1.call1 (v1 := str _) zwl rfl rfl ((zgB ((lnF s).getD i []) _ (hst.hD _ Q1) Om).mono fun v w hp => ?_))
   obtain ⟨aT, cT, rfl, hp⟩ := hp
   replace hst : St _ _ (_ :: _) _ _ := hst.call0 hp
   clear hp
   refine CN <| zad (v := .tuple #[.slice _ _ _, gII _ _]) rfl <| CN <| Ex (.slice _ _ _) rfl rfl <| CN <| Ex (gII _ _) rfl rfl <| CN <| Op1.alloc hst za0 fun w b10 hst => AL rfl <| CN (SO (v := gII _ _) hst za0 rfl rfl .u0 fun w hst => ?_)
   refine NL <| zaj [(2, Pp _ _), (3, Pp _ _), (4, Pp _ _), (6, Pp _ _), (7, .int .i64 _), (8, str _), (9, .slice _ _ _), (10, Pp _ _)] E8 fun f => SQ <| SR <| CN <| zaa zbr rfl <| CN <| zae (v := .int .i64 _) zcO rfl rfl (hst.cellL Q0 rfl) <| CN <| zak rfl rfl <| MB rfl <| zan (d := 35) rfl (fun g3 => ?_) (fun g3 => ?_)
   ·refine TK (t := 35) rfl (Vb (Dt g3)) <| zad (v := .slice _ _ _) rfl <| TK (t := 35) rfl (Vb (Dt g3)) <| zaQ (rest := []) zcB rfl <| TK (t := 35) rfl (Vb (Dt g3)) <| zak rfl rfl <| CN <| zap (u := .bool _) (Vb (Dt g3)) rfl <| NL <| zab rfl (fun g4 => ?_) (fun g4 => ?_)
    ·refine zaJ (id := 1) rfl <| zdP hlp hst .u2 fun w hst => ?_
     replace hst := hst.pick (.cons .u2 (.cons .u2 (.cons .u3 (.cons .u3 (.cons .u3 (.cons .u3 (.cons .u3 (.cons .u3 (.cons .u3 .nil)))))))))
     exact .inl ⟨rfl, (gn, bd, words, aq, cq, dm), _, hI.idle hi (by omega) g3 (by have := g4; simp at this; omega), hst⟩
    refine zaf <| SR <| MS rfl <| CN <| Op1.call1 (v1 := str _) ent44 rfl rfl <| Ret.det (zo0 ((lnF s).getD i []) _ (hst.hD _ Q1) Om) hst fun w hst => CN <| zad (v := .tuple #[gUU _ _, gII _ _]) rfl <| CN <| Ex (gUU _ _) rfl rfl <| CN <| Ex (gII _ _) rfl rfl <| CN <| Op1.alloc hst zcm fun w b11 hst => CN (SO (v := gUU _ _) hst zcm rfl rfl .u0 fun w hst => ?_)
    refine CN (SO (v := gII _ _) hst za0 rfl rfl .u1 fun w hst => ?_)
    refine NL <| SQ <| SR <| CN <| zaa zbr rfl <| CN <| zae (v := .int .i64 _) zcO rfl rfl (hst.cellL Q1 rfl) <| CN <| zaW rfl rfl <| NL <| zab rfl (fun g5 => ?_) (fun g5 => ?_)
    ·refine SQ ?_
     replace hst := hst.pick (.cons .u6 (.cons .u0 (.cons .u0 (.cons .u0 (.cons .u0 (.cons .u0 (.cons .u0 (.cons .u0 (.cons .u0 (.cons .u0 (.cons .u0 (.cons .u0 (.cons .u0 .nil)))))))))))))
     apply RunD.start [(5, Res.row b2 25 _, Res.row b2 25 _)] hst (bs := [0, 0, 2, 0, 14, 1, 63]) (ds := [some 48, some 49, some 50, some 51, some 52, none, none]) (htab := ⟨Kr, Kr, Kr⟩)
     intro tab6
     refine DO tab6 1 (fun _ _ _ hc => zag zb3 zpn .nil hc.z) ?_
     refine DO tab6 2 (fun f' L' w' hc=> zaa zbr (hc.old (v := Pp _ _) rfl rfl rfl) hc.z) <| DO tab6 3 (fun f' L' w' hc=> zae (v := .int .i64 _) zcO rfl (hc.d 1 rfl rfl rfl rfl) (hc.st.cellL (List.mem_append_right _ Q1) rfl) hc.z) <| DO tab6 4 (fun f' L' w' hc=> zad (v := .int .i64 _) (hc.old rfl rfl rfl) hc.z) <| DO tab6 5 (fun _ _ _ hc => zag za0 zcE (.c (v := .int .i64 _) (hc.d 2 rfl rfl rfl rfl) (h := (.c (v := .int .i64 _) (hc.d 3 rfl rfl rfl rfl) (h := .nil)))) hc.z) ?_
     refine zcd tab6 6 Q0 (fun f' L' L2 w' hc hsel => zbC (v := zb2 _ _ _ _ _) hc.st zb3 (hc.old (v := Pp _ _) rfl rfl rfl) (hc.d 0 rfl rfl rfl rfl) rfl rfl rfl hsel (by repeat (first | exact Put.nil | apply Put.put | apply Put.skip)) fun w hst => ⟨rfl, hst⟩) ?_
     refine RunD.fin zaw tab6 hst rfl (fun f7 w R10 hs8 hd9 hr11 hst => ?_)
     obtain ⟨h48_, r0⟩ := hd9 0 48 rfl rfl
     obtain ⟨h49_, r1⟩ := hd9 1 49 rfl rfl
     obtain ⟨h50_, r2⟩ := hd9 2 50 rfl rfl
     obtain ⟨h51_, r3⟩ := hd9 3 51 rfl rfl
     obtain ⟨h52_, r4⟩ := hd9 4 52 rfl rfl
     obtain ⟨_, _, r5⟩ := hr11 5 rfl
     simp only [rg6, Fc, Fn, Mc, Mn, r0, r1, r2, r3, r4, r5, Na, An, Ca] at hst
     refine zaD (sl := [(2, Pp _ _), (3, Pp _ _), (52, gII _ _)]) ⟨(hs8 2 rfl).trans rfl, (hs8 3 rfl).trans rfl, h52_, trivial⟩ ?_
     clear hs8 hd9 hr11 tab6
     refine CN (SO (v := gII _ _) hst za0 rfl rfl .u7 fun w hst => ?_)
     refine NL <| zfH hst .u4 fun w hst => ?_
     replace hst := hst.pick (.cons .u4 (.cons .u4 (.cons .u0 (.cons .u4 .nil))))
     exact .inr ⟨rfl, ((zcf ((lnF s).getD i [])).2.1, 0, 0, none, 0, []), _, hI.nohead hi (by omega) (fun h => (show ¬ (za7 ((lnF s).getD i [])).1.length = 0 by have := g4; simp at this; omega) h.2) g5, hst⟩
    refine zaf <| SQ ?_
    replace hst := hst.pick (.cons .u8 (.cons .u0 (.cons .u0 (.cons .u0 (.cons .u0 (.cons .u0 (.cons .u0 (.cons .u0 (.cons .u0 (.cons .u0 (.cons .u0 (.cons .u0 (.cons .u0 .nil)))))))))))))
    apply RunD.start [(5, Res.row b4 25 _, Res.row b4 25 _)] hst (bs := [0, 1, 0, 4, 3, 19, 63, 127]) (ds := [some 53, some 54, some 55, some 56, some 57, none, some 58, none]) (htab := ⟨Kr, Kr, Kr⟩)
    intro tab12
    refine DO tab12 1 (fun f' L' w' hc=> zaa zmx (hc.old (v := Pp _ _) rfl rfl rfl) hc.z) <| DO tab12 2 (fun f' L' w' hc=> zae (v := .int .u32 _) zbt rfl (hc.d 0 rfl rfl rfl rfl) (hc.st.cellL (List.mem_append_right _ Q0) rfl) hc.z) <| DO tab12 3 (fun f' L' w' hc=> zaa zmw (hc.old (v := Pp _ _) rfl rfl rfl) hc.z) <| DO tab12 4 (fun f' L' w' hc=> zae (v := .int .u32 _) zbt rfl (hc.d 2 rfl rfl rfl rfl) (hc.st.cellL (List.mem_append_right _ Q0) rfl) hc.z) <| DO tab12 5 (fun f' L' w' hc=> zaa zfO (hc.old (v := Pp _ _) rfl rfl rfl) hc.z) <| zcd tab12 6 Q0 (fun f' L' L2 w' hc hsel => zbC (v := .int .u32 _) hc.st zbt (hc.d 4 rfl rfl rfl rfl) (hc.d 1 rfl rfl rfl rfl) rfl rfl rfl hsel (by repeat (first | exact Put.nil | apply Put.put | apply Put.skip)) fun w hst => ⟨rfl, hst⟩) ?_
    refine RunD.fin zaw tab12 hst rfl (fun f13 w R16 hs14 hd15 hr17 hst => ?_)
    obtain ⟨h53_, r0⟩ := hd15 0 53 rfl rfl
    obtain ⟨h54_, r1⟩ := hd15 1 54 rfl rfl
    obtain ⟨h55_, r2⟩ := hd15 2 55 rfl rfl
    obtain ⟨h56_, r3⟩ := hd15 3 56 rfl rfl
    obtain ⟨h57_, r4⟩ := hd15 4 57 rfl rfl
    obtain ⟨_, _, r5⟩ := hr17 5 rfl
    simp only [rg6, Fc, Fn, Mc, Mn, r0, r1, r2, r3, r4, r5, Na, An, Ca] at hst
    refine zaD (sl := [(2, Pp _ _), (3, Pp _ _), (4, Pp _ _), (6, Pp _ _), (56, .int .u32 _)]) ⟨(hs14 2 rfl).trans rfl, (hs14 3 rfl).trans rfl, (hs14 4 rfl).trans rfl, (hs14 6 rfl).trans rfl, h56_, trivial⟩ ?_
    clear hs14 hd15 hr17 tab12
    refine CN <| zaa zcA rfl <| CN (SO (v := .int .u32 _) hst zbt rfl rfl .u0 fun w hst => ?_)
    refine NL <| zaj [(2, Pp _ _), (3, Pp _ _), (6, Pp _ _)] E3 fun f => SR <| CN (SO (v := .int .i64 _) hst ty3 rfl rfl .u10 fun w hst => ?_)
    refine NL <| zaJ (id := 1) rfl <| zdP hlp hst .u4 fun w hst => ?_
    replace hst := hst.pick (.cons .u4 (.cons .u4 (.cons .u5 (.cons .u5 (.cons .u0 (.cons .u4 (.cons .u4 (.cons .u4 (.cons .u4 .nil)))))))))
    exact .inl ⟨rfl, ((zcf ((lnF s).getD i [])).1.1, (zcf ((lnF s).getD i [])).1.2, 5, aq, cq, dm), _, hI.head hi (by omega) (fun h => (show ¬ (za7 ((lnF s).getD i [])).1.length = 0 by have := g4; simp at this; omega) h.2) g5, hst⟩
   refine OM (t := 35) rfl (Vb (Df g3)) rfl <| OM (t := 35) rfl (Vb (Df g3)) rfl <| OM (t := 35) rfl (Vb (Df g3)) rfl <| CN <| zaq (u := .bool _) (Vb (Df g3)) rfl <| NL <| zat (Vb (rfl : false = _)) <| zaf <| SR <| MS rfl <| CN <| Op1.call1 (v1 := str _) ent44 rfl rfl <| Ret.det (zo0 ((lnF s).getD i []) _ (hst.hD _ Q1) Om) hst fun w hst => CN <| zad (v := .tuple #[gUU _ _, gII _ _]) rfl <| CN <| Ex (gUU _ _) rfl rfl <| CN <| Ex (gII _ _) rfl rfl <| CN (Op1.alloc hst zcm fun w b11 hst => ?_)
   refine CN (SO (v := gUU _ _) hst zcm rfl rfl .u0 fun w hst => ?_)
   refine CN (SO (v := gII _ _) hst za0 rfl rfl .u1 fun w hst => ?_)
   refine NL <| SQ <| SR <| CN <| zaa zbr rfl <| CN <| zae (v := .int .i64 _) zcO rfl rfl (hst.cellL Q1 rfl) <| CN <| zaW rfl rfl <| NL <| zab rfl (fun g18 => ?_) (fun g18 => ?_)
   ·refine SQ ?_
    replace hst := hst.pick (.cons .u6 (.cons .u0 (.cons .u0 (.cons .u0 (.cons .u0 (.cons .u0 (.cons .u0 (.cons .u0 (.cons .u0 (.cons .u0 (.cons .u0 (.cons .u0 (.cons .u0 .nil)))))))))))))
    apply RunD.start [(5, Res.row b2 25 _, Res.row b2 25 _)] hst (bs := [0, 0, 2, 0, 14, 1, 63]) (ds := [some 48, some 49, some 50, some 51, some 52, none, none]) (htab := ⟨Kr, Kr, Kr⟩)
    intro tab19
    refine DO tab19 1 (fun _ _ _ hc => zag zb3 zpn .nil hc.z) ?_
    refine DO tab19 2 (fun f' L' w' hc=> zaa zbr (hc.old (v := Pp _ _) rfl rfl rfl) hc.z) <| DO tab19 3 (fun f' L' w' hc=> zae (v := .int .i64 _) zcO rfl (hc.d 1 rfl rfl rfl rfl) (hc.st.cellL (List.mem_append_right _ Q1) rfl) hc.z) <| DO tab19 4 (fun f' L' w' hc=> zad (v := .int .i64 _) (hc.old rfl rfl rfl) hc.z) <| DO tab19 5 (fun _ _ _ hc => zag za0 zcE (.c (v := .int .i64 _) (hc.d 2 rfl rfl rfl rfl) (h := (.c (v := .int .i64 _) (hc.d 3 rfl rfl rfl rfl) (h := .nil)))) hc.z) ?_
    refine zcd tab19 6 Q0 (fun f' L' L2 w' hc hsel => zbC (v := zb2 _ _ _ _ _) hc.st zb3 (hc.old (v := Pp _ _) rfl rfl rfl) (hc.d 0 rfl rfl rfl rfl) rfl rfl rfl hsel (by repeat (first | exact Put.nil | apply Put.put | apply Put.skip)) fun w hst => ⟨rfl, hst⟩) ?_
    refine RunD.fin zaw tab19 hst rfl (fun f20 w R23 hs21 hd22 hr24 hst => ?_)
    obtain ⟨h48_, r0⟩ := hd22 0 48 rfl rfl
    obtain ⟨h49_, r1⟩ := hd22 1 49 rfl rfl
    obtain ⟨h50_, r2⟩ := hd22 2 50 rfl rfl
    obtain ⟨h51_, r3⟩ := hd22 3 51 rfl rfl
    obtain ⟨h52_, r4⟩ := hd22 4 52 rfl rfl
    obtain ⟨_, _, r5⟩ := hr24 5 rfl
    simp only [rg6, Fc, Fn, Mc, Mn, r0, r1, r2, r3, r4, r5, Na, An, Ca] at hst
    refine zaD (sl := [(2, Pp _ _), (3, Pp _ _), (52, gII _ _)]) ⟨(hs21 2 rfl).trans rfl, (hs21 3 rfl).trans rfl, h52_, trivial⟩ ?_
    clear hs21 hd22 hr24 tab19
    refine CN (SO (v := gII _ _) hst za0 rfl rfl .u7 fun w hst => ?_)
    refine NL <| zfH hst .u4 fun w hst => ?_
    replace hst := hst.pick (.cons .u4 (.cons .u4 (.cons .u0 (.cons .u4 .nil))))
    exact .inr ⟨rfl, ((zcf ((lnF s).getD i [])).2.1, 0, 0, none, 0, []), _, hI.nohead hi Om (fun h => g3 h.1) g18, hst⟩
   refine zaf <| SQ ?_
   replace hst := hst.pick (.cons .u8 (.cons .u0 (.cons .u0 (.cons .u0 (.cons .u0 (.cons .u0 (.cons .u0 (.cons .u0 (.cons .u0 (.cons .u0 (.cons .u0 (.cons .u0 (.cons .u0 .nil)))))))))))))
   apply RunD.start [(5, Res.row b4 25 _, Res.row b4 25 _)] hst (bs := [0, 1, 0, 4, 3, 19, 63, 127]) (ds := [some 53, some 54, some 55, some 56, some 57, none, some 58, none]) (htab := ⟨Kr, Kr, Kr⟩)
   intro tab25
   refine DO tab25 1 (fun f' L' w' hc=> zaa zmx (hc.old (v := Pp _ _) rfl rfl rfl) hc.z) <| DO tab25 2 (fun f' L' w' hc=> zae (v := .int .u32 _) zbt rfl (hc.d 0 rfl rfl rfl rfl) (hc.st.cellL (List.mem_append_right _ Q0) rfl) hc.z) <| DO tab25 3 (fun f' L' w' hc=> zaa zmw (hc.old (v := Pp _ _) rfl rfl rfl) hc.z) <| DO tab25 4 (fun f' L' w' hc=> zae (v := .int .u32 _) zbt rfl (hc.d 2 rfl rfl rfl rfl) (hc.st.cellL (List.mem_append_right _ Q0) rfl) hc.z) <| DO tab25 5 (fun f' L' w' hc=> zaa zfO (hc.old (v := Pp _ _) rfl rfl rfl) hc.z) <| zcd tab25 6 Q0 (fun f' L' L2 w' hc hsel => zbC (v := .int .u32 _) hc.st zbt (hc.d 4 rfl rfl rfl rfl) (hc.d 1 rfl rfl rfl rfl) rfl rfl rfl hsel (by repeat (first | exact Put.nil | apply Put.put | apply Put.skip)) fun w hst => ⟨rfl, hst⟩) ?_
   refine RunD.fin zaw tab25 hst rfl (fun f26 w R29 hs27 hd28 hr30 hst => ?_)
   obtain ⟨h53_, r0⟩ := hd28 0 53 rfl rfl
   obtain ⟨h54_, r1⟩ := hd28 1 54 rfl rfl
   obtain ⟨h55_, r2⟩ := hd28 2 55 rfl rfl
   obtain ⟨h56_, r3⟩ := hd28 3 56 rfl rfl
   obtain ⟨h57_, r4⟩ := hd28 4 57 rfl rfl
   obtain ⟨_, _, r5⟩ := hr30 5 rfl
   simp only [rg6, Fc, Fn, Mc, Mn, r0, r1, r2, r3, r4, r5, Na, An, Ca] at hst
   refine zaD (sl := [(2, Pp _ _), (3, Pp _ _), (4, Pp _ _), (6, Pp _ _), (56, .int .u32 _)]) ⟨(hs27 2 rfl).trans rfl, (hs27 3 rfl).trans rfl, (hs27 4 rfl).trans rfl, (hs27 6 rfl).trans rfl, h56_, trivial⟩ ?_
   clear hs27 hd28 hr30 tab25
   refine CN <| zaa zcA rfl <| CN (SO (v := .int .u32 _) hst zbt rfl rfl .u0 fun w hst => ?_)
   refine NL <| zaj [(2, Pp _ _), (3, Pp _ _), (6, Pp _ _)] E3 fun f => SR <| CN (SO (v := .int .i64 _) hst ty3 rfl rfl .u10 fun w hst => ?_)
   refine NL <| zaJ (id := 1) rfl <| zdP hlp hst .u4 fun w hst => ?_
   replace hst := hst.pick (.cons .u4 (.cons .u4 (.cons .u5 (.cons .u5 (.cons .u0 (.cons .u4 (.cons .u4 (.cons .u4 (.cons .u4 .nil)))))))))
   exact .inl ⟨rfl, ((zcf ((lnF s).getD i [])).1.1, (zcf ((lnF s).getD i [])).1.2, 5, aq, cq, dm), _, hI.head hi Om (fun h => g3 h.1) g18, hst⟩
  refine zaf <| SR <| MS rfl <| CN <| zaa zcA rfl <| CN (zae (v := .int .u32 _) zbt rfl rfl (hst.cellL Q5 rfl) ?_)
  have hbdr := hI.bdr Om
  refine CN (zaz (v1 := str _) (v2 := .int .u32 _) ent36 rfl rfl rfl ((zu7 ((lnF s).getD i []) bd _ (hst.hD _ Q1) Om Om ⟨by omega, by omega⟩).mono fun v w hp => ?_))
  obtain ⟨xo, xc, hsm, rfl, hp⟩ := hp
  replace hst : St _ _ (_ :: _) _ _ := hst.call0 hp
  clear hp
  refine CN <| zad (v := .tuple #[zbb _ _ _ _ _ _, .bool _, gII _ _]) rfl <| CN <| Ex (zbb _ _ _ _ _ _) rfl rfl <| CN <| Ex (.bool _) rfl rfl <| CN <| Ex (gII _ _) rfl rfl <| CN <| Op1.alloc hst zbp fun w b12 hst => CN <| Op1.alloc hst za0 fun w b14 hst => CN (SO (v := zbb _ _ _ _ _ _) hst zbp rfl rfl .u1 fun w hst => ?_)
  refine AB rfl <| CN (SO (v := gII _ _) hst za0 rfl rfl .u0 fun w hst => ?_)
  refine NL <| zaj [(2, Pp _ _), (3, Pp _ _), (4, Pp _ _), (6, Pp _ _), (7, .int .i64 _), (12, Pp _ _), (13, .bool _), (14, Pp _ _)] E8 fun f => SQ <| SR <| MB rfl <| NL <| zaA rfl (fun g31 => ?_) (fun g31 => ?_)
  ·have hfl := hI.fault Om g31
   have hsz := zmj hfl.2
   have he0 : (zaT ((lnF s).getD i []) bd).2.2.1 = 0 := by rw [hfl.1]
   have hrmY : zbT (zbq (InstP.op (⟨(zaT ((lnF s).getD i []) bd).1.op, (zaT ((lnF s).getD i []) bd).1.ty, (zaT ((lnF s).getD i []) bd).1.res, xo, xc, (zaT ((lnF s).getD i []) bd).1.args⟩ : InstP))) (InstP.args (⟨(zaT ((lnF s).getD i []) bd).1.op, (zaT ((lnF s).getD i []) bd).1.ty, (zaT ((lnF s).getD i []) bd).1.res, xo, xc, (zaT ((lnF s).getD i []) bd).1.args⟩ : InstP)) = zbT (zbq (zaT ((lnF s).getD i []) bd).1.op) (zaT ((lnF s).getD i []) bd).1.args := rfl
   refine SQ <| RunD.start [] hst (bs := [0, 0, 0, 4, 14, 31, 63]) (ds := [some 68, some 69, some 70, some 71, some 72, some 73, none]) ⟨Kr, Kr, Kr⟩ (fun tab32 => ?_)
   refine DO tab32 1 (fun f' L' w' hc=> zae (v := .int .i64 _) ty3 rfl (hc.old (v := Pp _ _) rfl rfl rfl) (hc.st.cellL (List.mem_append_right _ Q10) rfl) hc.z) <| DO tab32 2 (fun f' L' w' hc=> zar (vs := zbg _ _ _ _ _ _) zbp rfl (hc.old (v := Pp _ _) rfl rfl rfl) rfl (zac (n := 4) (hc.st.objL (List.mem_append_right _ Q1)) _ rfl) hc.z) <| DO tab32 3 (fun f' L' w' hc=> zaa zcA (hc.old (v := Pp _ _) rfl rfl rfl) hc.z) <| DO tab32 4 (fun f' L' w' hc=> zae (v := .int .u32 _) zbt rfl (hc.d 2 rfl rfl rfl rfl) (hc.st.cellL (List.mem_append_right _ Q8) rfl) hc.z) <| DO tab32 5 (fun _ _ _ hc => zaz (v1 := zbb _ _ _ _ _ _) (v2 := .int .u32 _) ent45 rfl (hc.d 1 rfl rfl rfl rfl) (hc.d 3 rfl rfl rfl rfl) ((zu2 (⟨(zaT ((lnF s).getD i []) bd).1.op, (zaT ((lnF s).getD i []) bd).1.ty, (zaT ((lnF s).getD i []) bd).1.res, xo, xc, (zaT ((lnF s).getD i []) bd).1.args⟩ : InstP) bd hsm.2.2.1 hfl.2 _ (Res.rs_of_sl (hc.st.hL _ (List.mem_append_right _ Q2))) hsm.1 hsm.2.1).mono fun v w hp => ⟨[], ⟨hp.1, rfl⟩, hc.st.keepc hp.2⟩)) <| RunD.fin zaw tab32 hst rfl (fun f33 w R36 hs34 hd35 hr37 hst => ?_)
   obtain ⟨h68_, r0⟩ := hd35 0 68 rfl rfl
   obtain ⟨h69_, r1⟩ := hd35 1 69 rfl rfl
   obtain ⟨h70_, r2⟩ := hd35 2 70 rfl rfl
   obtain ⟨h71_, r3⟩ := hd35 3 71 rfl rfl
   obtain ⟨h72_, r4⟩ := hd35 4 72 rfl rfl
   simp only [rg5, Fc, Fn, Mc, Mn, r0, r1, r2, r3, r4, Na, An, Ca] at hst
   refine zaD (sl := [(2, Pp _ _), (3, Pp _ _), (4, Pp _ _), (6, Pp _ _), (7, .int .i64 _), (12, Pp _ _), (14, Pp _ _), (68, .int .i64 _), (72, .int .i64 _)]) ⟨(hs34 2 rfl).trans rfl, (hs34 3 rfl).trans rfl, (hs34 4 rfl).trans rfl, (hs34 6 rfl).trans rfl, (hs34 7 rfl).trans rfl, (hs34 12 rfl).trans rfl, (hs34 14 rfl).trans rfl, h68_, h72_, trivial⟩ ?_
   clear hs34 hd35 hr37 tab32
   refine CN <| zas rfl rfl rfl zbe <| CN (SO (v := .int .i64 _) hst ty3 rfl rfl .u10 fun w hst => ?_)
   refine NSR <| CN <| zaa zbU rfl <| CN <| zae (v := .slice _ _ _) zdo rfl rfl (hst.cellL Q8 rfl) <| CN <| zar (vs := zbg _ _ _ _ _ _) zbp rfl rfl rfl (zac (n := 4) (hst.objL Q1) _ rfl) <| CN (zaE (z0 := [.int .u16 0, .int .u32 0, .int .u32 0, .slice none 0 0]) hst zdo zbp rfl rfl Kr (.c (v := zbb _ _ _ _ _ _) rfl (h := .nil)) fun w b77 hst => ?_)
   refine CN (zaI (news := (zbg _ _ _ _ _ _)) hst zdo zbp rfl rfl .u12 rfl rfl rfl (zac (n := 4) (hst.objL Q0) _ rfl) rfl rfl Om fun w ao38 cp39 hst => ?_)
   replace hst := hst.drop .u1
   refine CN <| zaa zbU rfl <| CN (SO (v := .slice _ _ _) hst zdo rfl rfl .u9 fun w hst => ?_)
   refine NSR <| CN <| zae (v := .int .i64 _) ty3 rfl rfl (hst.cellL Q11 rfl) <| CN <| zbm rfl rfl <| NL <| zab rfl (fun g40 => ?_) (fun g40 => ?_)
   ·refine RG <| CN <| zaa zbr rfl <| CN (SO (v := .int .i64 _) hst zcO rfl rfl .u1 fun w hst => ?_)
    refine NSR <| CN <| zaa zbr rfl <| CN <| zae (v := .int .i64 _) zcO rfl rfl (hst.cellL Q1 rfl) <| CN <| zaW rfl rfl <| NL <| zaj [(2, Pp _ _), (3, Pp _ _), (7, .int .i64 _), (14, Pp _ _), (85, .bool _)] E5 fun f => zab rfl (fun g41 => ?_) (fun g41 => ?_)
    ·refine SQ ?_
     replace hst := hst.pick (.cons .u7 (.cons .u0 (.cons .u0 (.cons .u0 (.cons .u0 (.cons .u0 (.cons .u0 (.cons .u0 (.cons .u0 (.cons .u0 (.cons .u0 (.cons .u0 (.cons .u0 .nil)))))))))))))
     apply RunD.start [(5, Res.row b2 25 _, Res.row b2 25 _)] hst (bs := [0, 0, 2, 0, 14, 1, 63]) (ds := [some 86, some 87, some 88, some 89, some 90, none, none]) (htab := ⟨Kr, Kr, Kr⟩)
     intro tab42
     refine DO tab42 1 (fun _ _ _ hc => zag zb3 zpn .nil hc.z) ?_
     refine DO tab42 2 (fun f' L' w' hc=> zaa zbr (hc.old (v := Pp _ _) rfl rfl rfl) hc.z) <| DO tab42 3 (fun f' L' w' hc=> zae (v := .int .i64 _) zcO rfl (hc.d 1 rfl rfl rfl rfl) (hc.st.cellL (List.mem_append_right _ Q1) rfl) hc.z) <| DO tab42 4 (fun f' L' w' hc=> zad (v := .int .i64 _) (hc.old rfl rfl rfl) hc.z) <| DO tab42 5 (fun _ _ _ hc => zag za0 zcE (.c (v := .int .i64 _) (hc.d 2 rfl rfl rfl rfl) (h := (.c (v := .int .i64 _) (hc.d 3 rfl rfl rfl rfl) (h := .nil)))) hc.z) ?_
     refine zcd tab42 6 Q0 (fun f' L' L2 w' hc hsel => zbC (v := zb2 _ _ _ _ _) hc.st zb3 (hc.old (v := Pp _ _) rfl rfl rfl) (hc.d 0 rfl rfl rfl rfl) rfl rfl rfl hsel (by repeat (first | exact Put.nil | apply Put.put | apply Put.skip)) fun w hst => ⟨rfl, hst⟩) ?_
     refine RunD.fin zaw tab42 hst rfl (fun f43 w R46 hs44 hd45 hr47 hst => ?_)
     obtain ⟨h86_, r0⟩ := hd45 0 86 rfl rfl
     obtain ⟨h87_, r1⟩ := hd45 1 87 rfl rfl
     obtain ⟨h88_, r2⟩ := hd45 2 88 rfl rfl
     obtain ⟨h89_, r3⟩ := hd45 3 89 rfl rfl
     obtain ⟨h90_, r4⟩ := hd45 4 90 rfl rfl
     obtain ⟨_, _, r5⟩ := hr47 5 rfl
     simp only [rg6, Fc, Fn, Mc, Mn, r0, r1, r2, r3, r4, r5, Na, An, Ca] at hst
     refine zaD (sl := [(2, Pp _ _), (3, Pp _ _), (90, gII _ _)]) ⟨(hs44 2 rfl).trans rfl, (hs44 3 rfl).trans rfl, h90_, trivial⟩ ?_
     clear hs44 hd45 hr47 tab42
     refine CN (SO (v := gII _ _) hst za0 rfl rfl .u8 fun w hst => ?_)
     refine NL <| zfH hst .u5 fun w hst => ?_
     replace hst := hst.pick (.cons .u5 (.cons .u5 (.cons .u0 (.cons .u5 .nil))))
     exact .inr ⟨rfl, (4, 0, 0, none, 0, []), _, hI.big hi (by omega) g31 (by rw [hrmY] at *; omega), hst⟩
    exfalso
    omega
   refine zaf <| SR <| CN <| zaa zbr rfl <| CN <| zae (v := .int .i64 _) zcO rfl rfl (hst.cellL Q1 rfl) <| CN <| zaW rfl rfl <| NL <| zab rfl (fun g48 => ?_) (fun g48 => ?_)
   ·exfalso
    exact g48 he0
   refine zaf <| zam <| zdP hlp hst .u4 fun w hst => ?_
   replace hst := hst.pick (.cons .u3 (.cons .u11 (.cons .u3 (.cons .u3 (.cons .u4 (.cons .u4 (.cons .u4 (.cons .u4 (.cons .u4 (.cons .u0 .nil))))))))))
   replace hst := hst.starSnoc
   replace hst := hst.pick (.cons .u1 (.cons .u1 (.cons .u1 (.cons .u1 (.cons .u1 (.cons .u1 (.cons .u1 (.cons .u1 (.cons .u0 .nil)))))))))
   have e1 : dm.length + 1 = (dm ++ [(⟨(zaT ((lnF s).getD i []) bd).1.op, (zaT ((lnF s).getD i []) bd).1.ty, (zaT ((lnF s).getD i []) bd).1.res, xo, xc, (zaT ((lnF s).getD i []) bd).1.args⟩ : InstP)]).length := by simp
   have e2 : dm.flatMap zdu ++ [.int .u16 (zaT ((lnF s).getD i []) bd).1.op, .int .u32 (zaT ((lnF s).getD i []) bd).1.ty, .int .u32 (zaT ((lnF s).getD i []) bd).1.res, .slice xo (zaT ((lnF s).getD i []) bd).1.args.length xc] = (dm ++ [(⟨(zaT ((lnF s).getD i []) bd).1.op, (zaT ((lnF s).getD i []) bd).1.ty, (zaT ((lnF s).getD i []) bd).1.res, xo, xc, (zaT ((lnF s).getD i []) bd).1.args⟩ : InstP)]).flatMap zdu := by simp
   have e3 : dm.map (Res.oargs 110) ++ [Res.sl xo (zaT ((lnF s).getD i []) bd).1.args.length xc 110 3 ((zaT ((lnF s).getD i []) bd).1.args.flatMap zff)] = (dm ++ [(⟨(zaT ((lnF s).getD i []) bd).1.op, (zaT ((lnF s).getD i []) bd).1.ty, (zaT ((lnF s).getD i []) bd).1.res, xo, xc, (zaT ((lnF s).getD i []) bd).1.args⟩ : InstP)]).map (Res.oargs 110) := by simp
   rw [e1, e2, e3] at hst
   exact .inl ⟨rfl, (gn, bd, words + zbT (zbq (zaT ((lnF s).getD i []) bd).1.op) (zaT ((lnF s).getD i []) bd).1.args, ao38, cp39, dm ++ [(⟨(zaT ((lnF s).getD i []) bd).1.op, (zaT ((lnF s).getD i []) bd).1.ty, (zaT ((lnF s).getD i []) bd).1.res, xo, xc, (zaT ((lnF s).getD i []) bd).1.args⟩ : InstP)]), _, hI.more hi (by omega) g31 (by rw [hrmY] at *; omega) rfl hsm, hst⟩
  refine zaf <| SR <| CN <| zaa zbr rfl <| CN <| zae (v := .int .i64 _) zcO rfl rfl (hst.cellL Q0 rfl) <| CN <| zaW rfl rfl <| NL <| zab rfl (fun g49 => ?_) (fun g49 => ?_)
  ·refine SQ ?_
   replace hst := hst.pick (.cons .u6 (.cons .u0 (.cons .u0 (.cons .u0 (.cons .u0 (.cons .u0 (.cons .u0 (.cons .u0 (.cons .u0 (.cons .u0 (.cons .u0 (.cons .u0 (.cons .u0 .nil)))))))))))))
   apply RunD.start [(5, Res.row b2 25 _, Res.row b2 25 _)] hst (bs := [0, 0, 2, 0, 14, 1, 63]) (ds := [some 86, some 87, some 88, some 89, some 90, none, none]) (htab := ⟨Kr, Kr, Kr⟩)
   intro tab50
   refine DO tab50 1 (fun _ _ _ hc => zag zb3 zpn .nil hc.z) ?_
   refine DO tab50 2 (fun f' L' w' hc=> zaa zbr (hc.old (v := Pp _ _) rfl rfl rfl) hc.z) <| DO tab50 3 (fun f' L' w' hc=> zae (v := .int .i64 _) zcO rfl (hc.d 1 rfl rfl rfl rfl) (hc.st.cellL (List.mem_append_right _ Q0) rfl) hc.z) <| DO tab50 4 (fun f' L' w' hc=> zad (v := .int .i64 _) (hc.old rfl rfl rfl) hc.z) <| DO tab50 5 (fun _ _ _ hc => zag za0 zcE (.c (v := .int .i64 _) (hc.d 2 rfl rfl rfl rfl) (h := (.c (v := .int .i64 _) (hc.d 3 rfl rfl rfl rfl) (h := .nil)))) hc.z) ?_
   refine zcd tab50 6 Q0 (fun f' L' L2 w' hc hsel => zbC (v := zb2 _ _ _ _ _) hc.st zb3 (hc.old (v := Pp _ _) rfl rfl rfl) (hc.d 0 rfl rfl rfl rfl) rfl rfl rfl hsel (by repeat (first | exact Put.nil | apply Put.put | apply Put.skip)) fun w hst => ⟨rfl, hst⟩) ?_
   refine RunD.fin zaw tab50 hst rfl (fun f51 w R54 hs52 hd53 hr55 hst => ?_)
   obtain ⟨h86_, r0⟩ := hd53 0 86 rfl rfl
   obtain ⟨h87_, r1⟩ := hd53 1 87 rfl rfl
   obtain ⟨h88_, r2⟩ := hd53 2 88 rfl rfl
   obtain ⟨h89_, r3⟩ := hd53 3 89 rfl rfl
   obtain ⟨h90_, r4⟩ := hd53 4 90 rfl rfl
   obtain ⟨_, _, r5⟩ := hr55 5 rfl
   simp only [rg6, Fc, Fn, Mc, Mn, r0, r1, r2, r3, r4, r5, Na, An, Ca] at hst
   refine zaD (sl := [(2, Pp _ _), (3, Pp _ _), (90, gII _ _)]) ⟨(hs52 2 rfl).trans rfl, (hs52 3 rfl).trans rfl, h90_, trivial⟩ ?_
   clear hs52 hd53 hr55 tab50
   refine CN (SO (v := gII _ _) hst za0 rfl rfl .u7 fun w hst => ?_)
   refine NL <| zfH hst .u4 fun w hst => ?_
   replace hst := hst.pick (.cons .u4 (.cons .u4 (.cons .u0 (.cons .u4 .nil))))
   exact .inr ⟨rfl, ((zaT ((lnF s).getD i []) bd).2.2.1, 0, 0, none, 0, []), _, hI.noline hi Om g49, hst⟩
  refine zaf <| zam <| zdP hlp hst .u3 fun w hst => ?_
  replace hst := hst.pick (.cons .u3 (.cons .u3 (.cons .u4 (.cons .u4 (.cons .u4 (.cons .u4 (.cons .u4 (.cons .u4 (.cons .u4 .nil)))))))))
  exact .inl ⟨rfl, (gn, bd, words, aq, cq, dm), _, hI.skip hi Om g49 g31, hst⟩
 ·intro ⟨gn, bd, words, aq, cq, dm⟩ w bl br lp hI hst
  dsimp only at hst hI
  refine zam <| SQ <| SR <| CN <| zae (v := .int .i64 _) ty3 rfl rfl (hst.cellL Q6 rfl) <| CN <| zak rfl rfl <| NL <| zab rfl (fun g56 => ?_) (fun g56 => ?_)
  ·refine SQ ?_
   replace hst := hst.pick (.cons .u2 (.cons .u0 (.cons .u0 (.cons .u0 (.cons .u0 (.cons .u0 (.cons .u0 (.cons .u0 (.cons .u0 (.cons .u0 .nil))))))))))
   apply RunD.start [(3, Res.row b2 25 _, Res.row b2 25 _)] hst (bs := [0, 0, 2, 1, 15]) (ds := [some 93, some 94, some 95, none, none]) (htab := ⟨Kr, Kr, Kr⟩)
   intro tab57
   refine DO tab57 1 (fun _ _ _ hc => zag zb3 zpn .nil hc.z) ?_
   refine DO tab57 2 (fun f' L' w' hc=> zae (v := .int .i64 _) ty3 rfl (hc.old (v := Pp _ _) rfl rfl rfl) (hc.st.cellL (List.mem_append_right _ Q4) rfl) hc.z) <| DO tab57 3 (fun _ _ _ hc => zag za0 zcE (.c (v := .int .i64 _) rfl (h := (.c (v := .int .i64 _) (hc.d 1 rfl rfl rfl rfl) (h := .nil)))) hc.z) ?_
   refine zcd tab57 4 Q0 (fun f' L' L2 w' hc hsel => zbC (v := zb2 _ _ _ _ _) hc.st zb3 (hc.old (v := Pp _ _) rfl rfl rfl) (hc.d 0 rfl rfl rfl rfl) rfl rfl rfl hsel (by repeat (first | exact Put.nil | apply Put.put | apply Put.skip)) fun w hst => ⟨rfl, hst⟩) ?_
   refine RunD.fin zaw tab57 hst rfl (fun f58 w R61 hs59 hd60 hr62 hst => ?_)
   obtain ⟨h93_, r0⟩ := hd60 0 93 rfl rfl
   obtain ⟨h94_, r1⟩ := hd60 1 94 rfl rfl
   obtain ⟨h95_, r2⟩ := hd60 2 95 rfl rfl
   obtain ⟨_, _, r3⟩ := hr62 3 rfl
   simp only [rg4, Fc, Fn, Mc, Mn, r0, r1, r2, r3, Na, An, Ca] at hst
   refine zaD (sl := [(2, Pp _ _), (3, Pp _ _), (95, gII _ _)]) ⟨(hs59 2 rfl).trans rfl, (hs59 3 rfl).trans rfl, h95_, trivial⟩ ?_
   clear hs59 hd60 hr62 tab57
   refine CN (SO (v := gII _ _) hst za0 rfl rfl .u3 fun w hst => ?_)
   refine NL ?_
   replace hst := hst.pick (.cons .u2 (.cons .u0 (.cons .u0 (.cons .u0 (.cons .u0 (.cons .u0 (.cons .u0 (.cons .u0 (.cons .u0 (.cons .u0 .nil))))))))))
   refine zb6 [br] Tryz.func17 hst fun w hst => ⟨_, zvj rfl (zal (vs := zdH _ _ _ _ _) rfl zb3 rfl rfl (zac (n := 3) (hst.objL Q0) _ rfl)) (zal (vs := lII _ _) rfl za0 rfl rfl (zac (n := 2) (hst.objL Q2) _ rfl)), ?_⟩
   replace hst := hst.pick .nil
   replace hst := St.starCons ((hst.starNil).pushNil 44 4)
   rw [zdr (by omega), hI.fin0 (by omega)]
   exact ⟨none, 0, [], rfl, rfl, ⟨Nat.zero_le _, fun x h => by cases h⟩, hst.noD⟩
  refine zaf <| SR <| CN <| zar (vs := zdH _ _ _ _ _) zb3 rfl rfl rfl (zac (n := 3) (hst.objL Q4) _ rfl) <| CN (zag za0 zcE .nil ?_)
  refine CN (SO (v := zb2 _ _ _ _ _) hst zb3 rfl rfl .u2 fun w hst => ?_)
  refine CN (SO (v := gII _ _) hst za0 rfl rfl .u3 fun w hst => ?_)
  refine NL ?_
  replace hst := hst.pick (.cons .u1 (.cons .u0 (.cons .u0 (.cons .u0 (.cons .u0 (.cons .u0 (.cons .u0 (.cons .u0 (.cons .u0 (.cons .u0 .nil))))))))))
  refine zb6 [br] Tryz.func17 hst fun w hst => ⟨_, zvj rfl (zal (vs := zdH _ _ _ _ _) rfl zb3 rfl rfl (zac (n := 3) (hst.objL Q1) _ rfl)) (zal (vs := lII _ _) rfl za0 rfl rfl (zac (n := 2) (hst.objL Q2) _ rfl)), ?_⟩
  replace hst := hst.pick (.cons .u6 (.cons .u6 .nil))
  rw [zdr (by omega), hI.fin1 (by omega)]
  exact ⟨aq, cq, dm, rfl, rfl, ⟨by have h1 := hI.len; have h2 := hI.le; omega, hI.sm⟩, (St.starCons hst).noD⟩
 ·intro i ⟨gn, bd, words, aq, cq, dm⟩ hi hJ w bl br lp hst
  replace hst := hst.pick (.cons .u1 (.cons .u0 (.cons .u0 (.cons .u0 (.cons .u0 .nil)))))
  refine zb6 [br] Tryz.func17 hst fun w hst => ⟨_, zvj rfl (zal (vs := zdH _ _ _ _ _) rfl zb3 rfl rfl (zac (n := 3) (hst.objL Q1) _ rfl)) (zal (vs := lII _ _) rfl za0 rfl rfl (zac (n := 2) (hst.objL Q2) _ rfl)), ?_⟩
  replace hst := hst.pick .nil
  replace hst := St.starCons ((hst.starNil).pushNil 44 4)
  rw [zdr (by omega), hJ]
  exact ⟨none, 0, [], rfl, rfl, ⟨Nat.zero_le _, fun x h => by cases h⟩, hst.noD⟩
end Go.SK
namespace Go.SK
open Go Go.Proofs
theorem zkZ : zaN Tryz.prog 17 := ⟨Tryz.f17, _, Tryz.func17, Kr, rfl⟩
end Go.SK
