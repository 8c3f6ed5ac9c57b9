/-
  Steps of functions, plain law, and walks of functions: what the laws rest on.
-/
import Derived.Test.YtoodfjpigminkaaSkG0d
import Derived.Test.YtoodfjpigminkaaSkG2a
set_option linter.unusedVariables false
set_option linter.unusedSimpArgs false
set_option linter.unusedSectionVars false
namespace Go.SK
open Go.RowKit
variable {P : Program} {b : Base} {k : List Item} {E : Frame → World → Prop} {ops : Array Oper} {f : Nat → Value} {w0 w : World} {M : Nat → Prop} {L D : List Res} {φ : Nat → Word} {pd : Pend} {tk : Takes}
section
variable {bs : List Nat} {ds : List (Option Nat)} {i : Nat} {l : List Oper} {ws : Nat → Word} {n : Nat} {f' : Nat → Value} {L' : List Res} {w' : World}
theorem RunD.startT (tk : Takes) (pd : Pend) (hst : St w0 M (pd.map (·.2.1) ++ L) D w) (htab : DrawTab ops bs ds) (h : DrawTab ops bs ds → RunD tk pd P b ops bs ds k E f w0 M L D w 0 ops.toList noW) {id : Nat} : Run P b (.code (.region id ops true) :: k) f w E :=
  h htab rfl (fun i hi => absurd hi (by omega)) id
theorem RunD.over {d : Option Tmp} {op : Op} {ty : TypeId} {pos : String} {aft : Array Edge} (wd : Word) (htab : DrawTab ops bs ds) (i' : Nat) (j t : Nat) (hm : (j, i) ∈ tk) (ht : ds.getD j none = some t)
    (hv : ∀ f' L' L'' w', Know1 tk bs ds f w0 M L D i ws f' L' w' → (∃ g rs, ws j g (f' t) rs ∧ (∀ l u, bitB (bs.getD j 0) l = true → ds.getD l none = some u → g u = f' u) ∧ L'.Perm (rs ++ L'')) →
      Op1 P op ty (ev b.n f') w' (fun v w'' => ∃ rs, (∀ g, (∀ l u, bitB (bs.getD i 0) l = true → ds.getD l none = some u → g u = f' u) → wd g v rs) ∧ St w0 M (rs ++ (L'' ++ L)) D w''))
    (h : RunD tk pd P b ops bs ds k E f w0 M L D w i' l (updW ws i wd)) (hj : Nat.blt j i = true := by rfl) (hi : i + 1 = i' := by rfl) (hd : isDefer op = false := by rfl) : RunD tk pd P b ops bs ds k E f w0 M L D w i (⟨d, op, ty, pos, aft, none⟩ :: l) ws := by
  subst hi
  refine RunD.cons wd (fun ho φ hφ hi2 o ho' f' L' L'' w' hc => ?_) h
  rw [ho] at ho'
  obtain rfl := Option.some.inj ho'
  refine .inl ⟨rfl, hd, ?_⟩
  rw [hi2]
  refine (hv f' L' L'' w' (know1_of htab hφ ho hc) ?_).mono fun v w'' ⟨rs, h1, h2⟩ => ⟨rs, h1 _ fun l u hl hu => mask_get f' (by rw [htab.waits, bitB_eq]; exact hl) (by rw [htab.dstOf]; exact hu), h2⟩
  obtain ⟨rs, h1, h2⟩ := hc.took j t hm (by rw [htab.dstOf]; exact ht)
  rw [hφ j (by simpa using hj)] at h1
  exact ⟨_, rs, h1, fun l u hl hu => mask_get f' (by rw [htab.waits, bitB_eq]; exact hl) (by rw [htab.dstOf]; exact hu), h2⟩
end
end Go.SK
