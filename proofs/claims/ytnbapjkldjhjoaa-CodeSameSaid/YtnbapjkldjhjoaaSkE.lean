/-
  Regions that draw their order.
-/
import Derived.Test.YtnbapjkldjhjoaaSkD
set_option linter.unusedVariables false
set_option linter.unusedSimpArgs false
namespace Go.SK
open Go.RowKit

theorem St.perm {w0 w : World} {M : Nat → Prop} {L L' D : List Res} (h : St w0 M L D w) (hp : L.Perm L') : St w0 M L' D w where
  kept := h.kept
  hL := fun r hr => h.hL r (hp.mem_iff.2 hr)
  hD := h.hD
  new := fun r hr => h.new r (hp.mem_iff.2 hr)
  sep := (hp.pairwise_iff (fun {a b} hab => hab.symm)).1 h.sep
  sepD := fun r hr => h.sepD r (hp.mem_iff.2 hr)

/-! A region that draws its order. For each operation i a word on its value: φ i v rs (rs: the new resources that it brings). Each word is proved in whatever world the others may have left. -/

/-- the operations that i waits for, itself and through others -/
def waits (ops : Array Oper) (i j : Nat) : Bool := ((Region.before ops).getD i 0).testBit j

def dstOf (ops : Array Oper) (i : Nat) : Option Nat := (ops[i]?).bind (·.dst)

abbrev PWord := Value → List Res → Prop
/-- a word on an operation's value and resources; it may read the slots of those that the operation waits for -/
abbrev Word := (Nat → Value) → Value → List Res → Prop
abbrev cw (p : PWord) : Word := fun _ => p
def mask (ops : Array Oper) (j : Nat) (f : Nat → Value) : Nat → Value := fun t => if (List.range ops.size).any (fun l => waits ops j l && dstOf ops l == some t) then f t else undef
theorem mask_eq {ops : Array Oper} {j : Nat} {f1 f2 : Nat → Value} (h : ∀ l t, waits ops j l = true → dstOf ops l = some t → f1 t = f2 t) : mask ops j f1 = mask ops j f2 := by
  funext t
  unfold mask
  by_cases hb : (List.range ops.size).any (fun l => waits ops j l && dstOf ops l == some t) = true
  · rw [if_pos hb, if_pos hb]
    obtain ⟨l, _, hl⟩ := List.any_eq_true.1 hb
    simp only [Bool.and_eq_true, beq_iff_eq] at hl
    exact h l t hl.1 hl.2
  · rw [if_neg hb, if_neg hb]
theorem mask_get {ops : Array Oper} {j l t : Nat} (f : Nat → Value) (hw : waits ops j l = true) (hd : dstOf ops l = some t) : mask ops j f t = f t := by
  unfold mask
  rw [if_pos]
  refine List.any_eq_true.2 ⟨l, List.mem_range.2 ?_, by simp [hw, hd]⟩
  simp only [dstOf] at hd
  rcases Nat.lt_or_ge l ops.size with h | h
  · exact h
  · rw [Array.getElem?_eq_none h] at hd; cases hd
/-- a value that is known -/
abbrev det (v : Value) : PWord := fun u rs => u = v ∧ rs = []

/-- what stores among the words turn: the operation, the resource before and behind it -/
abbrev Pend := List (Nat × Res × Res)
def pendOf (pd : Pend) (done : Array Bool) : List Res := pd.map fun p => if done[p.1]? = some true then p.2.2 else p.2.1
structure Turn (pd : Pend) (i : Nat) (L' L'' : List Res) : Prop where
  own : ∀ r r', (i, r, r') ∈ pd → Sel r r' L' L''
  same : (∀ p ∈ pd, p.1 ≠ i) → L'' = L'

theorem Sel.left {r r' : Res} {L L' : List Res} (h : Sel r r' L L') : ∀ A : List Res, Sel r r' (A ++ L) (A ++ L')
  | [] => h
  | _ :: A => .there (h.left A)
theorem Sel.right {r r' : Res} {L L' : List Res} (h : Sel r r' L L') (B : List Res) : Sel r r' (L ++ B) (L' ++ B) := by
  induction h with
  | here => exact .here
  | there _ ih => exact .there ih

theorem pendOf_set {pd : Pend} {done : Array Bool} {i : Nat} (hi : done[i]? = some false) (hn : (pd.map (·.1)).Nodup) (A : List Res) : Turn pd i (A ++ pendOf pd done) (A ++ pendOf pd (done.setIfInBounds i true)) := by
  have hlt : i < done.size := (Array.getElem?_eq_some_iff.1 hi).1
  have hget : ∀ j : Nat, j ≠ i → (done.setIfInBounds i true)[j]? = done[j]? := fun j hj => by simp [Array.getElem?_setIfInBounds, Ne.symm hj]
  have hsame : ∀ pd : Pend, (∀ p ∈ pd, p.1 ≠ i) → pendOf pd (done.setIfInBounds i true) = pendOf pd done := fun pd hp => by
    apply List.map_congr_left
    intro p hp'
    rw [hget _ (hp p hp')]
  refine ⟨fun r r' hm => ?_, fun hp => by rw [hsame pd hp]⟩
  refine Sel.left ?_ A
  induction pd with
  | nil => cases hm
  | cons p pd ih =>
    rw [List.map_cons, List.nodup_cons] at hn
    simp only [pendOf, List.map_cons]
    cases hm with
    | head =>
      have hrest := hsame pd (fun q hq e => hn.1 (List.mem_map.2 ⟨q, hq, e⟩))
      simp only [pendOf] at hrest
      rw [hrest]
      simp only [hi, Array.getElem?_setIfInBounds_self_of_lt hlt]
      exact .here
    | tail _ hm =>
      have hne : p.1 ≠ i := fun e => hn.1 (List.mem_map.2 ⟨_, hm, e.symm⟩)
      rw [hget _ hne]
      exact .there (ih hn.2 hm)

structure Ctx (pd : Pend) (ops : Array Oper) (f : Nat → Value) (w0 : World) (M : Nat → Prop) (L D : List Res) (φ : Nat → Word) (i : Nat) (f' : Nat → Value) (L' L'' : List Res) (w' : World) : Prop where
  st : St w0 M (L' ++ L) D w'
  turn : Turn pd i L' L''
  slot : ∀ t, (∀ j, j < ops.size → dstOf ops j = some t → j = i ∨ waits ops j i = true) → f' t = f t
  dep : ∀ j t, waits ops i j = true → dstOf ops j = some t → ∃ rs, φ j (mask ops j f') (f' t) rs ∧ ∀ r ∈ rs, r ∈ L'

def Valid (pd : Pend) (P : Program) (n : Nat) (ops : Array Oper) (f : Nat → Value) (w0 : World) (M : Nat → Prop) (L D : List Res) (φ : Nat → Word) (i : Nat) : Prop :=
  ∀ o, ops[i]? = some o → ∀ f' L' L'' w', Ctx pd ops f w0 M L D φ i f' L' L'' w' →
    (Region.wanted o (yielded ops (tm n f')) = true ∧ isDefer o.op = false ∧
      Op1 P o.op o.type (ev n f') w' (fun v w'' => ∃ rs, φ i (mask ops i f') v rs ∧ St w0 M (rs ++ (L'' ++ L)) D w'')) ∨
    (Region.wanted o (yielded ops (tm n f')) = false ∧ φ i (mask ops i f') undef [] ∧ L'' = L')

structure Mid (pd : Pend) (ops : Array Oper) (f : Nat → Value) (w0 : World) (M : Nat → Prop) (L D : List Res) (φ : Nat → Word) (order : List Nat) (R : Nat → List Res) (done : Array Bool) (f' : Nat → Value) (w' : World) : Prop where
  st : St w0 M ((order.flatMap R ++ pendOf pd done) ++ L) D w'
  size : done.size = ops.size
  ord : ∀ j, j ∈ order ↔ done[j]? = some true
  nodup : order.Nodup
  down : ∀ i j, done[i]? = some true → waits ops i j = true → done[j]? = some true
  slot : ∀ t, (∀ j, dstOf ops j = some t → done[j]? ≠ some true) → f' t = f t
  dep : ∀ j t, done[j]? = some true → dstOf ops j = some t → φ j (mask ops j f') (f' t) (R j)
  res : ∀ j, done[j]? = some true → ∃ v, φ j (mask ops j f') v (R j)

def DstOnce (ops : Array Oper) : Prop := ∀ i j t, dstOf ops i = some t → dstOf ops j = some t → i = j

/-- 'before' is what the edges say -/
def EdgesOk (ops : Array Oper) : Prop := ∀ i j o, ops[i]? = some o → waits ops i j = true → ∃ e ∈ o.after, Region.binds .any e = true ∧ (e.on = j ∨ waits ops e.on j = true)

variable {P : Program} {b : Base} {k : List Item} {E : Frame → World → Prop} {ops : Array Oper} {f : Nat → Value} {w0 w : World} {M : Nat → Prop} {L D : List Res} {φ : Nat → Word} {pd : Pend}

theorem Mid.step {order : List Nat} {R : Nat → List Res} {done : Array Bool} {f' : Nat → Value} {w' w'' : World} {i : Nat} {v : Value} {rs : List Res} {o : Oper}
    (hone : DstOnce ops) (h : Mid pd ops f w0 M L D φ order R done f' w') (hi : done[i]? = some false) (ho : ops[i]? = some o) (hr : ∀ j, waits ops i j = true → done[j]? = some true)
    (hv : φ i (mask ops i f') v rs) (hst : St w0 M (rs ++ ((order.flatMap R ++ pendOf pd (done.setIfInBounds i true)) ++ L)) D w'') :
    Mid pd ops f w0 M L D φ (i :: order) (fun j => if j = i then rs else R j) (done.setIfInBounds i true) (putF f' o.dst v) w'' := by
  have hlt : i < done.size := (Array.getElem?_eq_some_iff.1 hi).1
  have hni : i ∉ order := fun hm => by rw [(h.ord i).1 hm] at hi; simp at hi
  have hget : ∀ j : Nat, (done.setIfInBounds i true)[j]? = if j = i then some true else done[j]? := by
    intro j
    by_cases hj : j = i
    · subst hj; simp [hlt]
    · simp [Array.getElem?_setIfInBounds, hj, Ne.symm hj]
  have hd : dstOf ops i = o.dst := by simp [dstOf, ho]
  -- what has been done, and this one, waits for other slots
  have hmask : ∀ j, (∀ l, waits ops j l = true → done[l]? = some true) → mask ops j (putF f' o.dst v) = mask ops j f' := fun j hj => mask_eq fun l t hw hl => by
    cases hdst : o.dst with
    | none => rfl
    | some d =>
      have : t ≠ d := fun e => by
        have hli : l = i := hone l i t hl (by rw [hd, hdst, e])
        rw [hli] at hw
        have := hj i hw
        rw [hi] at this; simp at this
      exact upd_ne _ _ this
  refine ⟨?_, by simpa using h.size, ?_, ?_, ?_, ?_, ?_, fun j hj => ?_⟩
  · have e : (i :: order).flatMap (fun j => if j = i then rs else R j) = rs ++ order.flatMap R := by
      simp only [List.flatMap_cons, if_true]
      congr 1
      simp only [List.flatMap]
      congr 1
      apply List.map_congr_left
      intro j hj
      rw [if_neg (fun (e : j = i) => hni (e ▸ hj))]
    rw [e, List.append_assoc rs, List.append_assoc rs]
    exact hst
  · intro j
    rw [hget, List.mem_cons, h.ord]
    by_cases hj : j = i <;> simp [hj]
  · exact List.nodup_cons.2 ⟨hni, h.nodup⟩
  · intro i' j hi' hw
    rw [hget] at hi' ⊢
    by_cases hj : j = i
    · simp [hj]
    · rw [if_neg hj]
      by_cases he : i' = i
      · subst he; exact hr j hw
      · rw [if_neg he] at hi'; exact h.down i' j hi' hw
  · intro t ht
    have hne : o.dst ≠ some t := fun e => ht i (hd.trans e) (by rw [hget]; simp)
    have : putF f' o.dst v t = f' t := by
      cases hdst : o.dst with
      | none => rfl
      | some d =>
        have : t ≠ d := fun e => hne (by rw [hdst, e])
        exact upd_ne _ _ this
    rw [this]
    refine h.slot t fun j hj hdone => ht j hj ?_
    rw [hget]; split
    · rfl
    · exact hdone
  · intro j t hj hdt
    rw [hget] at hj
    by_cases he : j = i
    · subst he
      rw [hd] at hdt
      have hm := hmask j hr
      simp only [hdt] at hm ⊢
      rw [hm]
      simp only [if_true, putF, upd_same]
      exact hv
    · rw [if_neg he] at hj
      have : putF f' o.dst v t = f' t := by
        cases hdst : o.dst with
        | none => rfl
        | some d =>
          have : t ≠ d := fun e => he (hone j i t hdt (by rw [hd, hdst, e]))
          exact upd_ne _ _ this
      rw [this, hmask j (fun l hw => h.down j l hj hw)]
      simp only [if_neg he]
      exact h.dep j t hj hdt
  · rw [hget] at hj
    by_cases he : j = i
    · subst he; exact ⟨v, by rw [hmask j hr]; simpa using hv⟩
    · rw [if_neg he] at hj
      simp only [if_neg he]
      rw [hmask j (fun l hw => h.down j l hj hw)]
      exact h.res j hj

theorem mem_ready {done : Array Bool} {i : Nat} (h : i ∈ Region.ready .any ops done) (hs : done.size = ops.size) :
    ∃ o, ops[i]? = some o ∧ done[i]? = some false ∧ ∀ e ∈ o.after, Region.binds .any e = true → done[e.on]? = some true := by
  simp only [Region.ready, List.mem_filter, List.mem_range, Bool.and_eq_true, Bool.not_eq_true'] at h
  obtain ⟨hlt, hnd, hall⟩ := h
  have hi : i < ops.size := hlt
  refine ⟨ops[i], by simp [hi], ?_, ?_⟩
  · have hd : i < done.size := by omega
    simp [hd] at hnd ⊢
    exact hnd
  · simp only [hi, getElem?_pos, Option.map_some, Option.getD_some, Array.all_eq_true, Bool.or_eq_true, Bool.not_eq_true'] at hall
    intro e he hb
    obtain ⟨m, hm, rfl⟩ := Array.mem_iff_getElem.1 he
    have := hall m hm
    rw [hb] at this
    simp at this
    by_cases hlt2 : ops[i].after[m].on < done.size
    · simp [hlt2] at this ⊢; exact this
    · simp [hlt2] at this

theorem ready_ne_nil {done : Array Bool} {order : List Nat} {R : Nat → List Res} {f' : Nat → Value} {w' : World} (h : Mid pd ops f w0 M L D φ order R done f' w')
    (hlow : ∀ i o, ops[i]? = some o → ∀ e ∈ o.after, Region.binds .any e = true → e.on < i) (hr : Region.ready .any ops done = []) : ∀ i, i < ops.size → done[i]? = some true := by
  intro i
  induction i using Nat.strongRecOn with
  | _ i ih =>
    intro hi
    by_cases hd : done[i]? = some true
    · exact hd
    · exfalso
      have hsz : i < done.size := by rw [h.size]; exact hi
      have hf : done[i] = false := by
        cases hc : done[i] with
        | false => rfl
        | true => exact absurd (by simp [hsz, hc]) hd
      have : i ∈ Region.ready .any ops done := by
        simp only [Region.ready, List.mem_filter, List.mem_range, Bool.and_eq_true, Bool.not_eq_true']
        refine ⟨hi, by simp [hsz, hf], ?_⟩
        simp only [hi, getElem?_pos, Option.map_some, Option.getD_some, Array.all_eq_true, Bool.or_eq_true, Bool.not_eq_true']
        intro m hm
        cases hb : Region.binds .any ops[i].after[m] with
        | false => exact .inl rfl
        | true =>
          right
          have hlt := hlow i ops[i] (by simp [hi]) ops[i].after[m] (Array.getElem_mem hm) hb
          have := ih _ hlt (by omega)
          have h2 : ops[i].after[m].on < done.size := by rw [h.size]; omega
          simp [h2] at this ⊢
          exact this
      rw [hr] at this
      cases this

theorem waits_below (hedges : EdgesOk ops) (hlow : ∀ i o, ops[i]? = some o → ∀ e ∈ o.after, Region.binds .any e = true → e.on < i) : ∀ i, ∀ j o, ops[i]? = some o → waits ops i j = true → j < i := by
  intro i
  induction i using Nat.strongRecOn with
  | _ i ih =>
    intro j o ho hw
    obtain ⟨e, he, hb, hor⟩ := hedges i j o ho hw
    have hlt := hlow i o ho e he hb
    rcases hor with rfl | hor
    · exact hlt
    · have hi : i < ops.size := (Array.getElem?_eq_some_iff.1 ho).1
      have := ih _ hlt j ops[e.on] (by simp [show e.on < ops.size by omega]) hor
      omega

/-- the marks of the first i operations -/
def Pre (ops : Array Oper) (i : Nat) (done : Array Bool) : Prop := done.size = ops.size ∧ ∀ j, done[j]? = some true ↔ j < i

theorem go_tail (hedges : EdgesOk ops) (hlow : ∀ i o, ops[i]? = some o → ∀ e ∈ o.after, Region.binds .any e = true → e.on < i) {m : Nat} (htail : ∀ i, m ≤ i → i < ops.size → ∀ j, j < i → waits ops i j = true) :
    ∀ (fuel t i : Nat) (done : Array Bool), m ≤ i → i + fuel = ops.size → Pre ops i done → Region.linearise.go .any ops fuel t done [] = List.range' i fuel := by
  intro fuel
  induction fuel with
  | zero => intro t i done _ _ _; simp [Region.linearise.go]
  | succ fuel ih =>
    intro t i done hm hn hp
    have hi : i < ops.size := by omega
    have hready : Region.ready .any ops done = [i] := by
      have key : ∀ j, j < ops.size → ((!done.getD j true && ((ops[j]?).map (·.after.all fun e => !Region.binds .any e || done.getD e.on false)).getD false) = true ↔ j = i) := by
        intro j hj
        have hjd : j < done.size := by rw [hp.1]; exact hj
        constructor
        · intro h
          have hr : j ∈ Region.ready .any ops done := List.mem_filter.2 ⟨List.mem_range.2 hj, h⟩
          obtain ⟨o, ho, hnd, hdeps⟩ := mem_ready hr hp.1
          have hge : ¬ j < i := fun hlt => by rw [(hp.2 j).2 hlt] at hnd; simp at hnd
          rcases Nat.lt_or_ge i j with hij | hij
          · exfalso
            have hw := htail j (by omega) hj i hij
            have : ∀ n j, j = n → ∀ o, ops[j]? = some o → (∀ e ∈ o.after, Region.binds .any e = true → done[e.on]? = some true) → ∀ l, waits ops j l = true → done[l]? = some true := by
              intro n j _ o ho hdeps l hw
              obtain ⟨e, he, hb, hor⟩ := hedges j l o ho hw
              have h1 := hdeps e he hb
              rcases hor with rfl | hor
              · exact h1
              · have h2 := (hp.2 e.on).1 h1
                have h3 : e.on < ops.size := by omega
                have h4 := waits_below hedges hlow e.on l ops[e.on] (by simp [h3]) hor
                exact (hp.2 l).2 (by omega)
            have := (hp.2 i).1 (this j j rfl o ho hdeps i hw)
            omega
          · omega
        · rintro rfl
          have hnd : done[j]? ≠ some true := fun h => by have := (hp.2 j).1 h; omega
          have hd : done[j] = false := by
            cases hc : done[j] with
            | false => rfl
            | true => exact absurd (by simp [hjd, hc]) hnd
          simp only [Bool.and_eq_true, Bool.not_eq_true']
          refine ⟨by simp [hjd, hd], ?_⟩
          simp only [hj, getElem?_pos, Option.map_some, Option.getD_some, Array.all_eq_true, Bool.or_eq_true, Bool.not_eq_true']
          intro x hx
          cases hb : Region.binds .any ops[j].after[x] with
          | false => exact .inl rfl
          | true =>
            right
            have hlt := hlow j ops[j] (by simp [hj]) ops[j].after[x] (Array.getElem_mem hx) hb
            have := (hp.2 _).2 hlt
            have h2 : ops[j].after[x].on < done.size := by rw [hp.1]; omega
            simp [h2] at this ⊢
            exact this
      have : Region.ready .any ops done = (List.range ops.size).filter (fun j => decide (j = i)) := by
        apply List.filter_congr
        intro j hj
        have := key j (List.mem_range.1 hj)
        by_cases hji : j = i
        · rw [this.2 hji]; simp [hji]
        · simp only [hji, decide_false]
          cases hc : (!done.getD j true && ((ops[j]?).map (·.after.all fun e => !Region.binds .any e || done.getD e.on false)).getD false) with
          | false => rfl
          | true => exact absurd (this.1 hc) hji
      rw [this]
      have e : List.range ops.size = List.range i ++ (i :: List.range' (i + 1) (ops.size - (i + 1))) := by
        rw [List.range_eq_range', List.range_eq_range', ← List.range'_succ]
        have := List.range'_append (s := 0) (m := i) (n := ops.size - (i + 1) + 1) (step := 1)
        rw [Nat.one_mul, Nat.zero_add] at this
        rw [this]
        congr 1
        omega
      rw [e, List.filter_append]
      have e1 : (List.range i).filter (fun j => decide (j = i)) = [] := by
        rw [List.filter_eq_nil_iff]
        intro j hj; have := List.mem_range.1 hj; simp; omega
      have e2 : (List.range' (i + 1) (ops.size - (i + 1))).filter (fun j => decide (j = i)) = [] := by
        rw [List.filter_eq_nil_iff]
        intro j hj; have := List.mem_range'_1.1 hj; simp; omega
      simp [e1, e2]
    simp only [Region.linearise.go]
    change (match (Region.ready .any ops done)[t % (Region.ready .any ops done).length]? with
      | some i => Region.linearise.go .any ops fuel (t / (Region.ready .any ops done).length) (done.setIfInBounds i true) [i]
      | none => [].reverse) = _
    rw [hready]
    simp only [List.length_cons, List.length_nil, Nat.zero_add, Nat.mod_one, List.getElem?_cons_zero]
    rw [linearise_go_acc, List.reverse_singleton, List.singleton_append, List.range'_succ]
    congr 1
    refine ih _ (i + 1) _ (by omega) (by omega) ⟨by simpa using hp.1, fun j => ?_⟩
    have hid : i < done.size := by rw [hp.1]; exact hi
    by_cases hj : j = i
    · subst hj; simp [hid]
    · rw [Array.getElem?_setIfInBounds_ne (Ne.symm hj), hp.2]
      omega

theorem run_linear (hone : DstOnce ops) (hedges : EdgesOk ops) (hlow : ∀ i o, ops[i]? = some o → ∀ e ∈ o.after, Region.binds .any e = true → e.on < i) {m : Nat} (hmn : m ≤ ops.size)
    (htail : ∀ i, m ≤ i → i < ops.size → ∀ j, j < i → waits ops i j = true)
    (hpn : (pd.map (·.1)).Nodup) (hpm : ∀ p ∈ pd, p.1 < m)
    (hval : ∀ i, i < m → Valid pd P b.n ops f w0 M L D φ i)
    (hend : ∀ f' w' R, (∀ t, (∀ j, j < m → dstOf ops j ≠ some t) → f' t = f t) → (∀ j t, j < m → dstOf ops j = some t → φ j (mask ops j f') (f' t) (R j)) → (∀ j, j < m → ∃ v, φ j (mask ops j f') v (R j)) → St w0 M (((List.range m).flatMap R ++ pd.map (·.2.2)) ++ L) D w' →
      Run P b (.inRegion ops (List.range' m (ops.size - m)) :: k) f' w' E) :
    ∀ (fuel t : Nat) (done : Array Bool) (order : List Nat) (R : Nat → List Res) (f' : Nat → Value) (w' : World), order.length + fuel = ops.size → (∀ j ∈ order, j < m) → Mid pd ops f w0 M L D φ order R done f' w' →
      Run P b (.inRegion ops (Region.linearise.go .any ops fuel t done []) :: k) f' w' E := by
  intro fuel
  -- the first m have been done
  have fin : ∀ (done : Array Bool) (order : List Nat) (R : Nat → List Res) (f' : Nat → Value) (w' : World), (∀ j ∈ order, j < m) → Mid pd ops f w0 M L D φ order R done f' w' → (∀ i, i < m → done[i]? = some true) →
      Run P b (.inRegion ops (List.range' m (ops.size - m)) :: k) f' w' E := by
    intro done order R f' w' hord h hall
    refine hend f' w' R ?_ ?_ (fun j hj => h.res j (hall j hj)) ?_
    · refine fun t ht => h.slot t fun j hj hdone => ?_
      exact ht j (hord j ((h.ord j).2 hdone)) hj
    · exact fun j t hj hjt => h.dep j t (hall j hj) hjt
    · have hp : order.Perm (List.range m) := by
        refine (List.perm_ext_iff_of_nodup h.nodup List.nodup_range).2 fun j => ?_
        rw [h.ord, List.mem_range]
        exact ⟨fun hj => hord j ((h.ord j).2 hj), hall j⟩
      have hpe : pendOf pd done = pd.map (·.2.2) := by
        apply List.map_congr_left
        intro p hp'
        rw [if_pos (hall _ (hpm p hp'))]
      have hst := h.st
      rw [hpe] at hst
      exact hst.perm (((hp.flatMap_right R).append_right _).append_right L)
  induction fuel with
  | zero =>
    intro t done order R f' w' hl hord h
    have hsub : ∀ j ∈ order, j < ops.size := fun j hj => by have := hord j hj; omega
    have hlen : order.length = ops.size := by omega
    have hp : ((List.range ops.size).filter (fun j => decide (j ∈ order))).Perm order := by
      refine (List.perm_ext_iff_of_nodup (List.nodup_range.filter _) h.nodup).2 fun j => ?_
      simp only [List.mem_filter, List.mem_range, decide_eq_true_eq]
      exact ⟨fun h => h.2, fun h => ⟨hsub j h, h⟩⟩
    have hl2 : ((List.range ops.size).filter (fun j => decide (j ∈ order))).length = (List.range ops.size).length := by
      rw [hp.length_eq, hlen, List.length_range]
    have hall : ∀ i, i < ops.size → i ∈ order := fun i hi => by
      have := (List.length_filter_eq_length_iff).1 hl2 i (List.mem_range.2 hi)
      simpa using this
    have hmeq : m = ops.size := by
      rcases Nat.lt_or_ge m ops.size with hlt | hge
      · have := hord m (hall m hlt); omega
      · omega
    have := fin done order R f' w' hord h (fun i hi => (h.ord i).1 (hall i (by omega)))
    rw [hmeq, Nat.sub_self] at this
    simpa [Region.linearise.go] using this
  | succ fuel ih =>
    intro t done order R f' w' hl hord h
    by_cases hall : ∀ i, i < m → done[i]? = some true
    · have hlen : order.length = m := by
        have hp : order.Perm (List.range m) := by
          refine (List.perm_ext_iff_of_nodup h.nodup List.nodup_range).2 fun j => ?_
          rw [h.ord, List.mem_range]
          exact ⟨fun hj => hord j ((h.ord j).2 hj), hall j⟩
        simpa using hp.length_eq
      have hpre : Pre ops m done := ⟨h.size, fun j => ⟨fun hj => hord j ((h.ord j).2 hj), hall j⟩⟩
      rw [go_tail hedges hlow htail (fuel + 1) t m done (Nat.le_refl _) (by omega) hpre]
      have := fin done order R f' w' hord h hall
      rwa [show ops.size - m = fuel + 1 by omega] at this
    · simp only [Region.linearise.go]
      change Run P b (.inRegion ops (match (Region.ready .any ops done)[t % (Region.ready .any ops done).length]? with
        | some i => Region.linearise.go .any ops fuel (t / (Region.ready .any ops done).length) (done.setIfInBounds i true) [i]
        | none => [].reverse) :: k) f' w' E
      cases hi : (Region.ready .any ops done)[t % (Region.ready .any ops done).length]? with
      | none =>
        have hnil : Region.ready .any ops done = [] := by
          cases hr : Region.ready .any ops done with
          | nil => rfl
          | cons x xs =>
            rw [hr] at hi
            have hlt : t % (x :: xs).length < (x :: xs).length := Nat.mod_lt _ (by simp)
            simp at hi
            simp at hlt
            omega
        exact absurd (fun i hi => ready_ne_nil h hlow hnil i (by omega)) hall
      | some i =>
        simp only []
        rw [linearise_go_acc, List.reverse_singleton, List.singleton_append]
        obtain ⟨o, ho, hnd, hdeps⟩ := mem_ready (List.mem_of_getElem? hi) h.size
        have hwait : ∀ j, waits ops i j = true → done[j]? = some true := fun j hw => by
          obtain ⟨e, he, hb, h1⟩ := hedges i j o ho hw
          have hd := hdeps e he hb
          rcases h1 with rfl | h1
          · exact hd
          · exact h.down e.on j hd h1
        have hiN : i < ops.size := (Array.getElem?_eq_some_iff.1 ho).1
        have him : i < m := by
          rcases Nat.lt_or_ge i m with hlt | hge
          · exact hlt
          · exact absurd (fun j hj => hwait j (htail i hge hiN j (by omega))) hall
        have hord' : ∀ j ∈ i :: order, j < m := fun j hj => by
          cases hj with
          | head => exact him
          | tail _ hj => exact hord j hj
        have hctx : Ctx pd ops f w0 M L D φ i f' (order.flatMap R ++ pendOf pd done) (order.flatMap R ++ pendOf pd (done.setIfInBounds i true)) w' := by
          refine ⟨h.st, pendOf_set hnd hpn _, fun t ht => h.slot t fun j hj hdone => ?_, fun j t hw hj => ⟨R j, h.dep j t (hwait j hw) hj, fun r hr => List.mem_append_left _ (List.mem_flatMap.2 ⟨j, (h.ord j).2 (hwait j hw), hr⟩)⟩⟩
          have hjs : j < ops.size := by have := (Array.getElem?_eq_some_iff.1 hdone).1; rw [h.size] at this; exact this
          rcases ht j hjs hj with rfl | hw
          · rw [hnd] at hdone; simp at hdone
          · have := h.down j i hdone hw
            rw [hnd] at this; simp at this
        rcases hval i him o ho f' _ _ w' hctx with ⟨hw, hdf, hop⟩ | ⟨hw, hphi, hsm⟩
        · intro cs
          have hs := op_step (P := P) (b := b) (k := k) (w := w') (rest := Region.linearise.go .any ops fuel (t / (Region.ready .any ops done).length) (done.setIfInBounds i true) []) ho hw hdf cs
          rw [execOp_eq] at hs
          obtain ⟨v, w2, ⟨rs, hv, hst⟩, hsteps⟩ := hop _ cs rfl hs
          rw [finish_fr, ho] at hsteps
          have hmid := h.step hone hnd ho hwait hv hst
          obtain ⟨fr, w3, hs3, he⟩ := ih (t / (Region.ready .any ops done).length) _ _ _ _ _ (by simp; omega) hord' hmid cs
          exact ⟨fr, w3, hsteps.trans hs3, he⟩
        · have hs := fun cs => op_skip (P := P) (k := k) (w := w') (b := b) (f := f') (ops := ops) (i := i)
            (rest := Region.linearise.go .any ops fuel (t / (Region.ready .any ops done).length) (done.setIfInBounds i true) []) (by simp [ho, hw]) cs
          refine Run.step1 hs ?_
          rw [ho]
          exact ih _ _ _ _ _ _ (by simp; omega) hord' (h.step (rs := []) hone hnd ho hwait hphi (by rw [hsm]; exact h.st))

/-! what the kernel checks of a region -/
def drawOk (ops : Array Oper) : Bool :=
  let n := ops.size
  let bs := Region.before ops
  (List.range n).all fun i =>
    let o := ops.getD i default
    (o.after.all fun e => !Region.binds .any e || Nat.blt e.on i) &&
    ((List.range n).all fun j => i == j || (match o.dst with | none => true | some d => (ops.getD j default).dst != some d)) &&
    (bs.getD i 0 == o.after.foldl (fun s e => if Region.binds .any e then s ||| 2 ^ e.on ||| bs.getD e.on 0 else s) 0)

theorem foldl_bit (bs : Array Nat) (j : Nat) : ∀ (es : List Edge) (s : Nat), (es.foldl (fun s e => if Region.binds .any e then s ||| 2 ^ e.on ||| bs.getD e.on 0 else s) s).testBit j = true →
    s.testBit j = true ∨ ∃ e ∈ es, Region.binds .any e = true ∧ (e.on = j ∨ (bs.getD e.on 0).testBit j = true)
  | [], s, h => .inl h
  | e :: es, s, h => by
    simp only [List.foldl_cons] at h
    rcases foldl_bit bs j es _ h with h | ⟨e', he', h'⟩
    · by_cases hb : Region.binds .any e = true
      · rw [if_pos hb] at h
        simp only [Nat.testBit_or, Bool.or_eq_true] at h
        rcases h with (h | h) | h
        · exact .inl h
        · right
          refine ⟨e, .head _, hb, .inl ?_⟩
          rw [Nat.testBit_two_pow] at h
          simpa using h
        · exact .inr ⟨e, .head _, hb, .inr h⟩
      · rw [if_neg hb] at h; exact .inl h
    · exact .inr ⟨e', .tail _ he', h'⟩

theorem drawOk_spec {ops : Array Oper} (h : drawOk ops = true) : DstOnce ops ∧ EdgesOk ops ∧ ∀ i o, ops[i]? = some o → ∀ e ∈ o.after, Region.binds .any e = true → e.on < i := by
  simp only [drawOk, List.all_eq_true, List.mem_range, Bool.and_eq_true, beq_iff_eq, Bool.or_eq_true] at h
  have hget : ∀ i o, ops[i]? = some o → i < ops.size ∧ ops.getD i default = o := fun i o ho => by
    have := Array.getElem?_eq_some_iff.1 ho
    exact ⟨this.1, by simp [this.1, this.2]⟩
  refine ⟨fun i j t hi hj => ?_, fun i j o ho hw => ?_, fun i o ho e he hb => ?_⟩
  · have gi : ∃ o, ops[i]? = some o ∧ o.dst = some t := by
      simp only [dstOf] at hi
      cases hg : ops[i]? with
      | none => simp [hg] at hi
      | some o => exact ⟨o, rfl, by simpa [hg] using hi⟩
    have gj : ∃ o, ops[j]? = some o ∧ o.dst = some t := by
      simp only [dstOf] at hj
      cases hg : ops[j]? with
      | none => simp [hg] at hj
      | some o => exact ⟨o, rfl, by simpa [hg] using hj⟩
    obtain ⟨oi, hoi, di⟩ := gi
    obtain ⟨oj, hoj, dj⟩ := gj
    have h1 := (h i (hget i oi hoi).1).1.2 j (hget j oj hoj).1
    rw [(hget i oi hoi).2, (hget j oj hoj).2, di, dj] at h1
    rcases h1 with h1 | h1
    · exact h1
    · simp at h1
  · have h1 := (h i (hget i o ho).1).2
    rw [(hget i o ho).2] at h1
    rw [waits, h1, ← Array.foldl_toList] at hw
    rcases foldl_bit _ j _ _ hw with h2 | ⟨e, he, hb, h3⟩
    · simp at h2
    · exact ⟨e, by simpa using he, hb, h3⟩
  · have h1 := (h i (hget i o ho).1).1.1
    rw [(hget i o ho).2, Array.all_eq_true] at h1
    obtain ⟨m, hm, rfl⟩ := Array.mem_iff_getElem.1 he
    have := h1 m hm
    rw [hb] at this
    simpa using this

/-! the rule, word by word -/
structure DrawTab (ops : Array Oper) (bs : List Nat) (ds : List (Option Nat)) : Prop where
  ok : drawOk ops = true
  bef : Region.before ops = bs.toArray
  dst : ops.toList.map (·.dst) = ds

def bitB (m j : Nat) : Bool := Nat.beq (m / 2 ^ j % 2) 1
theorem bitB_eq (m j : Nat) : m.testBit j = bitB m j := by
  rw [Nat.testBit_eq_decide_div_mod_eq, bitB]
  cases h : Nat.beq (m / 2 ^ j % 2) 1 with
  | true => simp [Nat.eq_of_beq_eq_true h]
  | false => simp [Nat.ne_of_beq_eq_false h]
def updW (ws : Nat → Word) (i : Nat) (wd : Word) : Nat → Word := fun j => bif Nat.beq j i then wd else ws j
theorem updW_same (ws : Nat → Word) (i : Nat) (wd : Word) : updW ws i wd i = wd := by simp [updW]
theorem updW_ne (ws : Nat → Word) {i j : Nat} (wd : Word) (h : j ≠ i) : updW ws i wd j = ws j := by
  have : Nat.beq j i = false := by
    cases hb : Nat.beq j i with
    | false => rfl
    | true => exact absurd (Nat.eq_of_beq_eq_true hb) h
  simp [updW, this]
abbrev noW : Nat → Word := fun _ _ _ _ => False

theorem DrawTab.waits {bs : List Nat} {ds : List (Option Nat)} (h : DrawTab ops bs ds) (i j : Nat) : waits ops i j = (bs.getD i 0).testBit j := by
  simp [SK.waits, h.bef]
theorem DrawTab.dstOf {bs : List Nat} {ds : List (Option Nat)} (h : DrawTab ops bs ds) (i : Nat) : dstOf ops i = ds.getD i none := by
  rw [← h.dst]
  simp only [SK.dstOf]
  by_cases hi : i < ops.size
  · simp [hi]
  · simp [hi]
theorem waits_lt (h : drawOk ops = true) : ∀ i, ∀ j o, ops[i]? = some o → waits ops i j = true → j < i := by
  obtain ⟨h1, h2, h3⟩ := drawOk_spec h
  exact waits_below h2 h3

/-- the words of the first i operations have been shown; l: the others -/
def RunD (pd : Pend) (P : Program) (b : Base) (ops : Array Oper) (bs : List Nat) (ds : List (Option Nat)) (k : List Item) (E : Frame → World → Prop) (f : Nat → Value) (w0 : World) (M : Nat → Prop) (L D : List Res) (w : World) (i : Nat) (l : List Oper) (ws : Nat → Word) : Prop :=
  ops.toList.drop i = l → (∀ j, j < i → ∀ φ : Nat → Word, (∀ j, j < i → φ j = ws j) → Valid pd P b.n ops f w0 M L D φ j) →
    ∀ id, Run P b (.code (.region id ops true) :: k) f w E

/-- what an operation's proof may lean on -/
structure Know1 (bs : List Nat) (ds : List (Option Nat)) (f : Nat → Value) (w0 : World) (M : Nat → Prop) (L D : List Res) (i : Nat) (ws : Nat → Word) (f' : Nat → Value) (L' : List Res) (w' : World) : Prop where
  st : St w0 M (L' ++ L) D w'
  slot : ∀ t, ((List.range ds.length).all fun j => (ds.getD j none != some t) || Nat.beq j i || bitB (bs.getD j 0) i) = true → f' t = f t
  dep : ∀ j t, bitB (bs.getD i 0) j = true → ds.getD j none = some t → ∃ g rs, ws j g (f' t) rs ∧ (∀ l u, bitB (bs.getD j 0) l = true → ds.getD l none = some u → g u = f' u) ∧ ∀ r ∈ rs, r ∈ L'

section
variable {bs : List Nat} {ds : List (Option Nat)} {i : Nat} {l : List Oper} {ws : Nat → Word} {n : Nat} {f' : Nat → Value} {L' : List Res} {w' : World}

theorem evs {t : Nat} {v : Value} (h : f' t = v) (ht : Nat.blt t n = true) : ev n f' (.tmp t) = v := by
  simp only [ev, ht, cond_true, h]
theorem Know1.old (h : Know1 bs ds f w0 M L D i ws f' L' w') {t : Nat} {v : Value} (hv : f t = v) (hs : ((List.range ds.length).all fun j => (ds.getD j none != some t) || Nat.beq j i || bitB (bs.getD j 0) i) = true)
    (ht : Nat.blt t n = true) : ev n f' (.tmp t) = v := evs ((h.slot t hs).trans hv) ht
theorem Know1.det (h : Know1 bs ds f w0 M L D i ws f' L' w') {j t : Nat} {v : Value} (hw : bitB (bs.getD i 0) j = true) (hd : ds.getD j none = some t) (hj : ws j = cw (SK.det v)) (ht : Nat.blt t n = true) : ev n f' (.tmp t) = v := by
  obtain ⟨g, rs, h1, _⟩ := h.dep j t hw hd
  rw [hj] at h1
  exact evs h1.1 ht

theorem RunD.start (pd : Pend) (hst : St w0 M (pd.map (·.2.1) ++ L) D w) (htab : DrawTab ops bs ds) (h : DrawTab ops bs ds → RunD pd P b ops bs ds k E f w0 M L D w 0 ops.toList noW) {id : Nat} : Run P b (.code (.region id ops true) :: k) f w E :=
  h htab rfl (fun i hi => absurd hi (by omega)) id

theorem RunD.cons {o : Oper} (wd : Word) (hv : ops[i]? = some o → ∀ φ : Nat → Word, (∀ j, j < i → φ j = ws j) → φ i = wd → Valid pd P b.n ops f w0 M L D φ i) (h : RunD pd P b ops bs ds k E f w0 M L D w (i + 1) l (updW ws i wd)) :
    RunD pd P b ops bs ds k E f w0 M L D w i (o :: l) ws := by
  intro hdrop hall id
  have hlen : i < ops.size := by
    rcases Nat.lt_or_ge i ops.size with hh | hh
    · exact hh
    · rw [List.drop_of_length_le (by simpa using hh)] at hdrop; cases hdrop
  have ho : ops[i]? = some o := by
    have : (ops.toList.drop i)[0]? = some o := by rw [hdrop]; rfl
    rw [List.getElem?_drop] at this
    simpa using this
  refine h ?_ (fun j hj φ hφ => ?_) id
  · have := congrArg (List.drop 1) hdrop
    rw [List.drop_drop] at this
    simpa [Nat.add_comm] using this
  · have hpre : ∀ j, j < i → φ j = ws j := fun j hj => by rw [hφ j (by omega), updW_ne _ _ (by omega)]
    by_cases hlt : j < i
    · exact hall j hlt φ hpre
    · obtain rfl : j = i := by omega
      exact hv ho φ hpre (by rw [hφ _ (by omega), updW_same])

theorem know1_of (htab : DrawTab ops bs ds) {φ : Nat → Word} (hφ : ∀ j, j < i → φ j = ws j) {o : Oper} (ho : ops[i]? = some o) {L'' : List Res} (hc : Ctx pd ops f w0 M L D φ i f' L' L'' w') : Know1 bs ds f w0 M L D i ws f' L' w' where
  st := hc.st
  slot := fun t ht => hc.slot t fun j hj hd => by
    rw [List.all_eq_true] at ht
    have hlen : ds.length = ops.size := by rw [← htab.dst]; simp
    have := ht j (List.mem_range.2 (by omega))
    rw [htab.dstOf] at hd
    simp only [hd, bne_self_eq_false, Bool.false_or, Bool.or_eq_true] at this
    rcases this with h | h
    · exact .inl (Nat.eq_of_beq_eq_true h)
    · exact .inr (by rw [htab.waits, bitB_eq]; exact h)
  dep := fun j t hw hd => by
    have hw' : waits ops i j = true := by rw [htab.waits, bitB_eq]; exact hw
    obtain ⟨rs, h1, h2⟩ := hc.dep j t hw' (by rw [htab.dstOf]; exact hd)
    rw [hφ j (waits_lt htab.ok _ _ _ ho hw')] at h1
    exact ⟨_, rs, h1, fun l u hl hu => mask_get f' (by rw [htab.waits, bitB_eq]; exact hl) (by rw [htab.dstOf]; exact hu), h2⟩

theorem tab_dst (htab : DrawTab ops bs ds) {j t : Nat} (h : ds.getD j none = some t) : (ops[j]?).bind (·.dst) = some t := by
  have := htab.dstOf j
  simp only [SK.dstOf] at this
  rw [this, h]

theorem plain_of {i : Nat} (hp : (pd.all fun p => !(Nat.beq p.1 i)) = true) : ∀ p ∈ pd, p.1 ≠ i := fun p hm e => by
  have := List.all_eq_true.1 hp p hm
  rw [e, Nat.beq_refl] at this
  cases this

/-- an operation without a guard -/
theorem RunD.op {d : Option Tmp} {op : Op} {ty : TypeId} {pos : String} {aft : Array Edge} (wd : PWord) (htab : DrawTab ops bs ds) (i' : Nat)
    (hv : ∀ f' L' w', Know1 bs ds f w0 M L D i ws f' L' w' → Op1 P op ty (ev b.n f') w' (fun v w'' => ∃ rs, wd v rs ∧ St w0 M (rs ++ (L' ++ L)) D w''))
    (h : RunD pd P b ops bs ds k E f w0 M L D w i' l (updW ws i (cw wd))) (hi : i + 1 = i' := by rfl) (hd : isDefer op = false := by rfl) (hp : (pd.all fun p => !(Nat.beq p.1 i)) = true := by rfl) : RunD pd P b ops bs ds k E f w0 M L D w i (⟨d, op, ty, pos, aft, none⟩ :: l) ws := by
  subst hi
  refine RunD.cons (cw wd) (fun ho φ hφ hi2 o ho' f' L' L'' w' hc => ?_) h
  rw [ho] at ho'
  obtain rfl := Option.some.inj ho'
  refine .inl ⟨rfl, hd, ?_⟩
  have := hv f' L' w' (know1_of htab hφ ho hc)
  rw [hi2, hc.turn.same (plain_of hp)]
  exact this

/-- an operation whose word reads the slots of those that it waits for -/
theorem RunD.opR {d : Option Tmp} {op : Op} {ty : TypeId} {pos : String} {aft : Array Edge} (wd : Word) (htab : DrawTab ops bs ds) (i' : Nat)
    (hv : ∀ f' L' w', Know1 bs ds f w0 M L D i ws f' L' w' → Op1 P op ty (ev b.n f') w' (fun v w'' => ∃ rs, (∀ g, (∀ l u, bitB (bs.getD i 0) l = true → ds.getD l none = some u → g u = f' u) → wd g v rs) ∧ St w0 M (rs ++ (L' ++ L)) D w''))
    (h : RunD pd P b ops bs ds k E f w0 M L D w i' l (updW ws i wd)) (hi : i + 1 = i' := by rfl) (hd : isDefer op = false := by rfl) (hp : (pd.all fun p => !(Nat.beq p.1 i)) = true := by rfl) : RunD pd P b ops bs ds k E f w0 M L D w i (⟨d, op, ty, pos, aft, none⟩ :: l) ws := by
  subst hi
  refine RunD.cons wd (fun ho φ hφ hi2 o ho' f' L' L'' w' hc => ?_) h
  rw [ho] at ho'
  obtain rfl := Option.some.inj ho'
  refine .inl ⟨rfl, hd, ?_⟩
  have := hv f' L' w' (know1_of htab hφ ho hc)
  rw [hi2, hc.turn.same (plain_of hp)]
  exact this.mono fun v w'' ⟨rs, h1, h2⟩ => ⟨rs, h1 _ fun l u hl hu => mask_get f' (by rw [htab.waits, bitB_eq]; exact hl) (by rw [htab.dstOf]; exact hu), h2⟩

/-- a store among the words -/
theorem RunD.own {d : Option Tmp} {op : Op} {ty : TypeId} {pos : String} {aft : Array Edge} {r r' : Res} (htab : DrawTab ops bs ds) (i' : Nat) (hm : (i, r, r') ∈ pd)
    (hv : ∀ f' L' L'' w', Know1 bs ds f w0 M L D i ws f' L' w' → Sel r r' (L' ++ L) (L'' ++ L) → Op1 P op ty (ev b.n f') w' (fun v w'' => v = undef ∧ St w0 M (L'' ++ L) D w''))
    (h : RunD pd P b ops bs ds k E f w0 M L D w i' l (updW ws i (cw (SK.det undef)))) (hi : i + 1 = i' := by rfl) (hd : isDefer op = false := by rfl) : RunD pd P b ops bs ds k E f w0 M L D w i (⟨d, op, ty, pos, aft, none⟩ :: l) ws := by
  subst hi
  refine RunD.cons (cw (SK.det undef)) (fun ho φ hφ hi2 o ho' f' L' L'' w' hc => ?_) h
  rw [ho] at ho'
  obtain rfl := Option.some.inj ho'
  refine .inl ⟨rfl, hd, ?_⟩
  have := hv f' L' L'' w' (know1_of htab hφ ho hc) ((hc.turn.own r r' hm).right L)
  rw [hi2]
  exact this.mono fun v w hw => ⟨[], ⟨hw.1, rfl⟩, hw.2⟩

/-- a guarded operation, its guard decided -/
theorem RunD.take {d : Option Tmp} {op : Op} {ty : TypeId} {pos : String} {aft : Array Edge} {j t : Nat} {c : Bool} (wd : PWord) (htab : DrawTab ops bs ds) (i' : Nat)
    (hj : ds.getD j none = some t) (hg : ∀ f' L' w', Know1 bs ds f w0 M L D i ws f' L' w' → ev b.n f' (.tmp t) = .bool c)
    (hv : ∀ f' L' w', Know1 bs ds f w0 M L D i ws f' L' w' → Op1 P op ty (ev b.n f') w' (fun v w'' => ∃ rs, wd v rs ∧ St w0 M (rs ++ (L' ++ L)) D w''))
    (h : RunD pd P b ops bs ds k E f w0 M L D w i' l (updW ws i (cw wd))) (hi : i + 1 = i' := by rfl) (hd : isDefer op = false := by rfl) (hp : (pd.all fun p => !(Nat.beq p.1 i)) = true := by rfl) : RunD pd P b ops bs ds k E f w0 M L D w i (⟨d, op, ty, pos, aft, some (j, c)⟩ :: l) ws := by
  subst hi
  refine RunD.cons (cw wd) (fun ho φ hφ hi2 o ho' f' L' L'' w' hc => ?_) h
  rw [ho] at ho'
  obtain rfl := Option.some.inj ho'
  have hl := know1_of htab hφ ho hc
  refine .inl ⟨?_, hd, ?_⟩
  · simp [Region.wanted, yielded_tm (tab_dst htab hj) (hg f' L' w' hl)]
  · rw [hi2, hc.turn.same (plain_of hp)]; exact hv f' L' w' hl
theorem RunD.omit {d : Option Tmp} {op : Op} {ty : TypeId} {pos : String} {aft : Array Edge} {j t : Nat} {c c' : Bool} (htab : DrawTab ops bs ds) (i' : Nat)
    (hj : ds.getD j none = some t) (hne : c' = !c) (hg : ∀ f' L' w', Know1 bs ds f w0 M L D i ws f' L' w' → ev b.n f' (.tmp t) = .bool c')
    (h : RunD pd P b ops bs ds k E f w0 M L D w i' l (updW ws i (cw (SK.det undef)))) (hi : i + 1 = i' := by rfl) (hp : (pd.all fun p => !(Nat.beq p.1 i)) = true := by rfl) : RunD pd P b ops bs ds k E f w0 M L D w i (⟨d, op, ty, pos, aft, some (j, c)⟩ :: l) ws := by
  subst hi
  refine RunD.cons (cw (SK.det undef)) (fun ho φ hφ hi2 o ho' f' L' L'' w' hc => ?_) h
  rw [ho] at ho'
  obtain rfl := Option.some.inj ho'
  have hl := know1_of htab hφ ho hc
  refine .inr ⟨?_, ?_, hc.turn.same (plain_of hp)⟩
  · subst hne
    have := yielded_tm (ops := ops) (tab_dst htab hj) (hg f' L' w' hl)
    simp only [Region.wanted, this]
    cases c <;> rfl
  · rw [hi2]; exact ⟨rfl, rfl⟩
/-- a guarded operation whose guard was itself left out -/
theorem RunD.omitU {d : Option Tmp} {op : Op} {ty : TypeId} {pos : String} {aft : Array Edge} {j t : Nat} {c : Bool} (htab : DrawTab ops bs ds) (i' : Nat)
    (hj : ds.getD j none = some t) (hg : ∀ f' L' w', Know1 bs ds f w0 M L D i ws f' L' w' → ev b.n f' (.tmp t) = undef)
    (h : RunD pd P b ops bs ds k E f w0 M L D w i' l (updW ws i (cw (SK.det undef)))) (hi : i + 1 = i' := by rfl) (hp : (pd.all fun p => !(Nat.beq p.1 i)) = true := by rfl) : RunD pd P b ops bs ds k E f w0 M L D w i (⟨d, op, ty, pos, aft, some (j, c)⟩ :: l) ws := by
  subst hi
  refine RunD.cons (cw (SK.det undef)) (fun ho φ hφ hi2 o ho' f' L' L'' w' hc => ?_) h
  rw [ho] at ho'
  obtain rfl := Option.some.inj ho'
  have hl := know1_of htab hφ ho hc
  refine .inr ⟨?_, ?_, hc.turn.same (plain_of hp)⟩
  · have := yielded_undef (ops := ops) (tab_dst htab hj) (hg f' L' w' hl)
    simp only [Region.wanted, this]
    cases c <;> rfl
  · rw [hi2]; exact ⟨rfl, rfl⟩

def pendOk (pd : Pend) (m : Nat) : Bool := (pd.map (·.1)).Nodup && pd.all fun p => Nat.blt p.1 m
/-- behind the words: the operations from i on wait for all before them, and go in their order -/
theorem RunD.fin (hm : P.follows .mixedOrders = true) (htab : DrawTab ops bs ds) (hst : St w0 M (pd.map (·.2.1) ++ L) D w)
    (ht : ((List.range ds.length).all fun j => Nat.blt j i || (List.range j).all fun j2 => bitB (bs.getD j 0) j2) = true)
    (h : ∀ f' w' R, (∀ t, ((ds.take i).all fun d => d != some t) = true → f' t = f t) → (∀ j t, Nat.blt j i = true → ds.getD j none = some t → ws j (mask ops j f') (f' t) (R j)) → (∀ j, Nat.blt j i = true → ∃ v, ws j (mask ops j f') v (R j)) →
      St w0 M (((List.range i).flatMap R ++ pd.map (·.2.2)) ++ L) D w' → RunL P b ops l k f' w' E) (hn : Nat.ble i ds.length = true := by rfl) (hpo : pendOk pd i = true := by rfl) :
    RunD pd P b ops bs ds k E f w0 M L D w i l ws := by
  intro hl hall id
  have hlen : ds.length = ops.size := by rw [← htab.dst]; simp
  have hle : i ≤ ds.length := Nat.le_of_ble_eq_true hn
  obtain ⟨h1, h2, h3⟩ := drawOk_spec htab.ok
  have nope : ∀ j : Nat, (Array.replicate ops.size false)[j]? ≠ some true := fun j hj => by
    rw [Array.getElem?_replicate] at hj
    split at hj <;> simp at hj
  have htail : ∀ j, i ≤ j → j < ops.size → ∀ j2, j2 < j → waits ops j j2 = true := fun j hi hio j2 hj => by
    rw [List.all_eq_true] at ht
    have := ht j (List.mem_range.2 (by omega))
    rw [Bool.or_eq_true] at this
    rcases this with hh | hh
    · have : j < i := by simpa using hh
      omega
    · rw [List.all_eq_true] at hh
      rw [htab.waits, bitB_eq]
      exact hh j2 (List.mem_range.2 hj)
  have hpo' := hpo
  simp only [pendOk, Bool.and_eq_true, decide_eq_true_eq] at hpo'
  have hpo1 := hpo'.1
  have hpo2 : ∀ p ∈ pd, p.1 < i := fun p hm => by simpa using List.all_eq_true.1 hpo'.2 p hm
  have key := run_linear (P := P) (b := b) (k := k) (E := E) (φ := ws) (f := f) (w0 := w0) (M := M) (L := L) (D := D) (pd := pd) h1 h2 h3 (m := i) (by omega) htail hpo1 hpo2
    (fun j hj => hall j hj ws (fun _ _ => rfl))
    (fun f' w' R ha hb hres hc => h f' w' R (fun t ht => ha t fun j hjm hj => by
        rw [htab.dstOf] at hj
        rw [List.all_eq_true] at ht
        have hjl : j < ds.length := by omega
        have hmem : ds[j] ∈ ds.take i := by
          rw [List.mem_take_iff_getElem]
          exact ⟨j, by omega, rfl⟩
        have := ht ds[j] hmem
        simp [hjl] at hj
        simp [hj] at this)
      (fun j t hjm hj => hb j t (by simpa using hjm) (by rw [htab.dstOf]; exact hj)) (fun j hj => hres j (by simpa using hj)) hc (List.range' i (ops.size - i)) (by
        subst hl
        apply List.ext_getElem
        · simp
        · intro j h1 h2
          simp at h1
          simp))
    ops.size (w.tape w.drawn (.order b.fn id)) (Array.replicate ops.size false) [] (fun _ => []) f { w with drawn := w.drawn + 1 } (by simp) (by simp)
    ⟨by
      have e : pendOf pd (Array.replicate ops.size false) = pd.map (·.2.1) := by
        apply List.map_congr_left
        intro p _
        rw [if_neg (nope _)]
      rw [e]
      exact hst.keep (Kept.drawn _ _ _), by simp, fun j => ⟨fun hj => absurd hj (List.not_mem_nil), fun hj => (nope j hj).elim⟩, .nil, fun i j hi => (nope i hi).elim, fun t _ => rfl, fun j t hj => (nope j hj).elim, fun j hj => (nope j hj).elim⟩
  refine Run.step1 (fun cs => step_lone_go ?_) key
  simp [stepG, stepG.exec, Base.fr, choose, Sem.run, Question.forced, Question.cut, Region.schedule, hm, Region.linearise]
end

/-- a slot that is known -/
theorem Run.slot {t : Nat} {v : Value} (h : f t = v) (hr : Run P b k (upd f t v) w E) : Run P b k f w E := by
  have : upd f t v = f := by
    funext u
    by_cases hu : u = t
    · subst hu; rw [upd_same, h]
    · rw [upd_ne _ _ hu]
  rw [this] at hr
  exact hr

end Go.SK
