/-
  Resources: what a call owns and knows of memory.
-/
import Derived.Test.YtnbapjkldjhjoaaSkA
set_option linter.unusedVariables false
set_option linter.unusedSimpArgs false
namespace Go.SK
open Go.RowKit

/-! resources -/
structure Res where
  foot : Nat → Prop
  holds : World → Prop
  stable : ∀ w w' : World, (∀ b, foot b → w'.heap[b]? = w.heap[b]?) → holds w → holds w'
  inb : ∀ w, holds w → ∀ b, foot b → b < w.heap.size

def Res.obj (b : Nat) (o : Obj) : Res :=
  ⟨(· = b), fun w => w.heap[b]? = some o, fun w w' h hh => by rw [h b rfl]; exact hh, fun w h c hc => by subst hc; exact (Array.getElem?_eq_some_iff.1 h).1⟩

/-- a row of variables -/
abbrev Res.row (b : Nat) (T : TypeId) (l : List Value) : Res := Res.obj b (.cells l.toArray T (0, 0))

structure Kept (M : Nat → Prop) (w w' : World) : Prop where
  os : w'.os = w.os
  tape : w'.tape = w.tape
  output : w'.output = w.output
  size : w.heap.size ≤ w'.heap.size
  block : ∀ b, b < w.heap.size → ¬ M b → w'.heap[b]? = w.heap[b]?

def NoM : Nat → Prop := fun _ => False

theorem Kept.refl (M : Nat → Prop) (w : World) : Kept M w w := ⟨rfl, rfl, rfl, Nat.le_refl _, fun _ _ _ => rfl⟩
theorem Kept.trans {M N : Nat → Prop} {a b c : World} (h : Kept M a b) (k : Kept N b c) (hN : ∀ x, x < a.heap.size → N x → M x) : Kept M a c :=
  ⟨k.os.trans h.os, k.tape.trans h.tape, k.output.trans h.output, Nat.le_trans h.size k.size,
    fun x hx hm => (k.block x (Nat.lt_of_lt_of_le hx h.size) (fun hn => hm (hN x hx hn))).trans (h.block x hx hm)⟩
theorem Kept.mono {M N : Nat → Prop} {a b : World} (h : Kept M a b) (hN : ∀ x, x < a.heap.size → M x → N x) : Kept N a b :=
  ⟨h.os, h.tape, h.output, h.size, fun x hx hn => h.block x hx (fun hm => hn (hN x hx hm))⟩
theorem Kept.below {w w' : World} (h : Kept NoM w w') : Below w.heap.size w w' := ⟨h.os, h.tape, h.output, h.size, fun k hk => h.block k hk id⟩
theorem Kept.of_below {w w' : World} (h : Below w.heap.size w w') : Kept NoM w w' := ⟨h.os, h.tape, h.output, h.size, fun k hk _ => h.block k hk⟩

theorem Kept.alloc (M : Nat → Prop) (w : World) (o : Obj) : Kept M w (w.alloc o) := ⟨rfl, rfl, rfl, by simp, fun b hb _ => Below.heap_alloc w o b hb⟩
theorem Kept.drawn (M : Nat → Prop) (w : World) (n : Nat) : Kept M w { w with drawn := n } := ⟨rfl, rfl, rfl, Nat.le_refl _, fun _ _ _ => rfl⟩
theorem Kept.put (w : World) (b : Nat) (o : Obj) : Kept (· = b) w { w with heap := w.heap.setIfInBounds b o } :=
  ⟨rfl, rfl, rfl, by simp, fun c hc hne => by simp [Array.getElem?_setIfInBounds, show b ≠ c from fun h => hne h.symm]⟩

def Apart (r s : Res) : Prop := ∀ b, r.foot b → ¬ s.foot b

structure St (w0 : World) (M : Nat → Prop) (L D : List Res) (w : World) : Prop where
  kept : Kept M w0 w
  hL : ∀ r ∈ L, r.holds w
  hD : ∀ r ∈ D, r.holds w
  new : ∀ r ∈ L, ∀ b, r.foot b → w0.heap.size ≤ b ∨ M b
  sep : L.Pairwise Apart
  sepD : ∀ r ∈ L, ∀ d ∈ D, Apart r d

inductive Sel (r r' : Res) : List Res → List Res → Prop
  | here {L : List Res} : Sel r r' (r :: L) (r' :: L)
  | there {s : Res} {L L' : List Res} : Sel r r' L L' → Sel r r' (s :: L) (s :: L')

inductive Rem (r : Res) : List Res → List Res → Prop
  | here {L : List Res} : Rem r (r :: L) L
  | there {s : Res} {L L' : List Res} : Rem r L L' → Rem r (s :: L) (s :: L')

theorem Sel.mem {r r' : Res} {L L' : List Res} (h : Sel r r' L L') : r ∈ L := by
  induction h with
  | here => exact .head _
  | there _ ih => exact .tail _ ih
theorem Sel.mem' {r r' s : Res} {L L' : List Res} (h : Sel r r' L L') (hs : s ∈ L') : s = r' ∨ s ∈ L := by
  induction h with
  | here => cases hs with
    | head => exact .inl rfl
    | tail _ h => exact .inr (.tail _ h)
  | there _ ih => cases hs with
    | head => exact .inr (.head _)
    | tail _ h => exact (ih h).imp id (.tail _)
theorem Apart.symm {r s : Res} (h : Apart r s) : Apart s r := fun b hs hr => h b hr hs

/-- The other resources stay. -/
theorem Sel.other {r r' : Res} {L L' : List Res} (h : Sel r r' L L') (hp : L.Pairwise Apart) {w w' : World} (hL : ∀ s ∈ L, s.holds w) (hr' : r'.holds w') (hk : Kept r.foot w w') :
    ∀ s ∈ L', s.holds w' := by
  induction h with
  | here =>
    intro s hs
    cases hs with
    | head => exact hr'
    | tail _ hs =>
      have ha : Apart r s := (List.pairwise_cons.1 hp).1 s hs
      have hh := hL s (.tail _ hs)
      exact s.stable w w' (fun b hb => hk.block b (s.inb w hh b hb) (fun hr => ha b hr hb)) hh
  | @there s0 L L' h ih =>
    intro s hs
    have hp' := List.pairwise_cons.1 hp
    cases hs with
    | head =>
      have ha : Apart s0 r := hp'.1 r h.mem
      have hh := hL s0 (.head _)
      exact s0.stable w w' (fun b hb => hk.block b (s0.inb w hh b hb) (fun hr => ha b hb hr)) hh
    | tail _ hs => exact ih hp'.2 (fun s hs => hL s (.tail _ hs)) s hs

theorem Sel.pair {r r' : Res} {L L' : List Res} (h : Sel r r' L L') (hp : L.Pairwise Apart) {w : World} (hL : ∀ s ∈ L, s.holds w) (hf : ∀ b, r'.foot b → r.foot b ∨ w.heap.size ≤ b) : L'.Pairwise Apart := by
  have key : ∀ s ∈ L, Apart r s → Apart r' s := fun s hs ha b hb hsb => by
    rcases hf b hb with hr | hge
    · exact ha b hr hsb
    · exact absurd (s.inb w (hL s hs) b hsb) (by omega)
  induction h with
  | here =>
    have hp' := List.pairwise_cons.1 hp
    exact List.pairwise_cons.2 ⟨fun s hs => key s (.tail _ hs) (hp'.1 s hs), hp'.2⟩
  | @there s0 L L' h ih =>
    have hp' := List.pairwise_cons.1 hp
    refine List.pairwise_cons.2 ⟨fun s hs => ?_, ih hp'.2 (fun s hs => hL s (.tail _ hs)) (fun s hs => key s (.tail _ hs))⟩
    rcases h.mem' hs with rfl | hs
    · exact (key s0 (.head _) (hp'.1 r h.mem).symm).symm
    · exact hp'.1 s hs

section
variable {w0 w w' : World} {M : Nat → Prop} {L L' D : List Res} {r r' : Res}

theorem St.init (w : World) : St w NoM [] [] w := ⟨Kept.refl _ _, by simp, by simp, by simp, .nil, by simp⟩

theorem St.upd (h : St w0 M L D w) (hs : Sel r r' L L') (hk : Kept r.foot w w') (hr' : r'.holds w') (hf : ∀ b, r'.foot b → r.foot b ∨ w.heap.size ≤ b) : St w0 M L' D w' where
  kept := h.kept.trans hk fun b hb hr => (h.new r hs.mem b hr).resolve_left (by omega)
  hL := hs.other h.sep h.hL hr' hk
  hD := fun d hd => d.stable w w' (fun b hb => hk.block b (d.inb w (h.hD d hd) b hb) (fun hr => h.sepD r hs.mem d hd b hr hb)) (h.hD d hd)
  new := fun s hm b hb => by
    rcases hs.mem' hm with rfl | hm
    · rcases hf b hb with hr | hge
      · exact h.new r hs.mem b hr
      · exact .inl (Nat.le_trans h.kept.size hge)
    · exact h.new s hm b hb
  sep := hs.pair h.sep h.hL hf
  sepD := fun s hm d hd b hb hdb => by
    rcases hs.mem' hm with rfl | hm
    · rcases hf b hb with hr | hge
      · exact h.sepD r hs.mem d hd b hr hdb
      · exact absurd (d.inb w (h.hD d hd) b hdb) (by omega)
    · exact h.sepD s hm d hd b hb hdb

theorem St.keep (h : St w0 M L D w) (hk : Kept NoM w w') : St w0 M L D w' where
  kept := h.kept.trans hk (fun _ _ hf => hf.elim)
  hL := fun s hs => s.stable w w' (fun b hb => hk.block b (s.inb w (h.hL s hs) b hb) id) (h.hL s hs)
  hD := fun s hs => s.stable w w' (fun b hb => hk.block b (s.inb w (h.hD s hs) b hb) id) (h.hD s hs)
  new := h.new
  sep := h.sep
  sepD := h.sepD

theorem St.push (h : St w0 M L D w) (hk : Kept NoM w w') (hr' : r'.holds w') (hf : ∀ b, r'.foot b → w.heap.size ≤ b) : St w0 M (r' :: L) D w' where
  kept := h.kept.trans hk (fun _ _ hf => hf.elim)
  hL := fun s hs => by
    cases hs with
    | head => exact hr'
    | tail _ hs => exact (h.keep hk).hL s hs
  hD := (h.keep hk).hD
  new := fun s hs b hb => by
    cases hs with
    | head => exact .inl (Nat.le_trans h.kept.size (hf b hb))
    | tail _ hs => exact h.new s hs b hb
  sep := List.pairwise_cons.2 ⟨fun s hs b hb hsb => absurd (s.inb w (h.hL s hs) b hsb) (by have := hf b hb; omega), h.sep⟩
  sepD := fun s hs d hd b hb hdb => by
    cases hs with
    | head => exact absurd (d.inb w (h.hD d hd) b hdb) (by have := hf b hb; omega)
    | tail _ hs => exact h.sepD s hs d hd b hb hdb

/-- Behind a call: L1 is what it was given to change, Lc what it gives back. -/
theorem St.call {L1 L2 Lc : List Res} {Mc : Nat → Prop} (h : St w0 M (L1 ++ L2) D w) (hc : St w Mc Lc [] w') (hM : ∀ b, Mc b → ∃ r ∈ L1, r.foot b) : St w0 M (Lc ++ L2) D w' := by
  have old2 : ∀ s ∈ L2, s.holds w' := fun s hs => s.stable w w' (fun b hb => hc.kept.block b (s.inb w (h.hL s (List.mem_append_right _ hs)) b hb) (fun hm => by
    obtain ⟨r, hr, hrb⟩ := hM b hm
    exact (List.pairwise_append.1 h.sep).2.2 r hr s hs b hrb hb)) (h.hL s (List.mem_append_right _ hs))
  have oldD : ∀ d ∈ D, d.holds w' := fun d hd => d.stable w w' (fun b hb => hc.kept.block b (d.inb w (h.hD d hd) b hb) (fun hm => by
    obtain ⟨r, hr, hrb⟩ := hM b hm
    exact h.sepD r (List.mem_append_left _ hr) d hd b hrb hb)) (h.hD d hd)
  refine ⟨h.kept.trans hc.kept fun b hb hm => ?_, ?_, oldD, ?_, ?_, ?_⟩
  · obtain ⟨r, hr, hrb⟩ := hM b hm
    exact (h.new r (List.mem_append_left _ hr) b hrb).resolve_left (by omega)
  · intro s hs
    rcases List.mem_append.1 hs with hs | hs
    · exact hc.hL s hs
    · exact old2 s hs
  · intro s hs b hb
    rcases List.mem_append.1 hs with hs | hs
    · rcases hc.new s hs b hb with hge | hm
      · exact .inl (Nat.le_trans h.kept.size hge)
      · obtain ⟨r, hr, hrb⟩ := hM b hm
        exact h.new r (List.mem_append_left _ hr) b hrb
    · exact h.new s (List.mem_append_right _ hs) b hb
  · refine List.pairwise_append.2 ⟨hc.sep, (List.pairwise_append.1 h.sep).2.1, fun s hs t ht b hsb htb => ?_⟩
    rcases hc.new s hs b hsb with hge | hm
    · exact absurd (t.inb w (h.hL t (List.mem_append_right _ ht)) b htb) (by omega)
    · obtain ⟨r, hr, hrb⟩ := hM b hm
      exact (List.pairwise_append.1 h.sep).2.2 r hr t ht b hrb htb
  · intro s hs d hd b hsb hdb
    rcases List.mem_append.1 hs with hs | hs
    · rcases hc.new s hs b hsb with hge | hm
      · exact absurd (d.inb w (h.hD d hd) b hdb) (by omega)
      · obtain ⟨r, hr, hrb⟩ := hM b hm
        exact h.sepD r (List.mem_append_left _ hr) d hd b hrb hdb
    · exact h.sepD s (List.mem_append_right _ hs) d hd b hsb hdb

theorem St.call0 {Lc : List Res} (h : St w0 M L D w) (hc : St w NoM Lc [] w') : St w0 M (Lc ++ L) D w' :=
  St.call (L1 := []) h hc (fun _ hf => hf.elim)

theorem Rem.mem (h : Rem r L L') : r ∈ L := by
  induction h with
  | here => exact .head _
  | there _ ih => exact .tail _ ih
theorem Rem.sub (h : Rem r L L') : ∀ s ∈ L', s ∈ L := by
  induction h with
  | here => exact fun s hs => .tail _ hs
  | there _ ih => intro s hs; cases hs with
    | head => exact .head _
    | tail _ hs => exact .tail _ (ih s hs)
theorem Rem.apart (h : Rem r L L') (hp : L.Pairwise Apart) : L'.Pairwise Apart ∧ ∀ s ∈ L', Apart r s := by
  induction h with
  | here => exact ⟨(List.pairwise_cons.1 hp).2, (List.pairwise_cons.1 hp).1⟩
  | @there s0 L L' h ih =>
    have hp' := List.pairwise_cons.1 hp
    obtain ⟨h1, h2⟩ := ih hp'.2
    refine ⟨List.pairwise_cons.2 ⟨fun s hs => hp'.1 s (h.sub s hs), h1⟩, fun s hs => ?_⟩
    cases hs with
    | head => exact (hp'.1 r h.mem).symm
    | tail _ hs => exact h2 s hs

/-- bring a resource to the front -/
theorem St.front (h : St w0 M L D w) (hr : Rem r L L') : St w0 M (r :: L') D w where
  kept := h.kept
  hL := fun s hs => by cases hs with
    | head => exact h.hL r hr.mem
    | tail _ hs => exact h.hL s (hr.sub s hs)
  hD := h.hD
  new := fun s hs => by cases hs with
    | head => exact h.new r hr.mem
    | tail _ hs => exact h.new s (hr.sub s hs)
  sep := List.pairwise_cons.2 ⟨(hr.apart h.sep).2, (hr.apart h.sep).1⟩
  sepD := fun s hs => by cases hs with
    | head => exact h.sepD r hr.mem
    | tail _ hs => exact h.sepD s (hr.sub s hs)

/-- what will not change any more -/
theorem St.freeze (h : St w0 M L D w) (hr : Rem r L L') : St w0 M L' (r :: D) w where
  kept := h.kept
  hL := fun s hs => h.hL s (hr.sub s hs)
  hD := fun s hs => by cases hs with
    | head => exact h.hL r hr.mem
    | tail _ hs => exact h.hD s hs
  new := fun s hs => h.new s (hr.sub s hs)
  sep := (hr.apart h.sep).1
  sepD := fun s hs d hd => by cases hd with
    | head => exact ((hr.apart h.sep).2 s hs).symm
    | tail _ hd => exact h.sepD s (hr.sub s hs) d hd

theorem St.drop (h : St w0 M L D w) (hr : Rem r L L') : St w0 M L' D w where
  kept := h.kept
  hL := fun s hs => h.hL s (hr.sub s hs)
  hD := h.hD
  new := fun s hs => h.new s (hr.sub s hs)
  sep := (hr.apart h.sep).1
  sepD := fun s hs d hd => h.sepD s (hr.sub s hs) d hd

theorem St.nil (h : St w0 M L D w) : St w0 M [] [] w := ⟨h.kept, by simp, by simp, by simp, .nil, by simp⟩
theorem St.noD (h : St w0 M L D w) : St w0 M L [] w := ⟨h.kept, h.hL, by simp, h.new, h.sep, by simp⟩
theorem St.dropD {D' : List Res} (h : St w0 M L D w) (hs : ∀ d ∈ D', d ∈ D) : St w0 M L D' w :=
  ⟨h.kept, h.hL, fun d hd => h.hD d (hs d hd), h.new, h.sep, fun s hm d hd => h.sepD s hm d (hs d hd)⟩
/-- a known fact on a resource that no owned one touches -/
theorem St.know (h : St w0 M L D w) (hr : r.holds w) (ha : ∀ s ∈ L, Apart s r) : St w0 M L (r :: D) w :=
  ⟨h.kept, h.hL, fun d hd => by cases hd with
    | head => exact hr
    | tail _ hd => exact h.hD d hd, h.new, h.sep, fun s hs d hd => by cases hd with
    | head => exact ha s hs
    | tail _ hd => exact h.sepD s hs d hd⟩
end
end Go.SK
