/-
  Steps of functions, plain law, and walks of functions: what the laws rest on.
-/
import Derived.Test.YtglmmdpeenckbaaDoorSkU0b
set_option linter.unusedVariables false
set_option linter.unusedSimpArgs false
set_option linter.unusedSectionVars false
namespace Go.SK
theorem znB : namesL.all (fun x => decide (0 ≤ x.n ∧ x.n < 4294967296)) = true := by decide +kernel
theorem zio (s : Tx) : 0 ≤ (za5 s).1 ∧ (za5 s).1 < 4294967296 := by
  unfold za5
  cases h : zaT s with
  | some n => have := (zm5 h).2; dsimp only; omega
  | none =>
    dsimp only
    split
    · cases h2 : zaT (s.drop 1) with
      | none => exact ⟨by decide, by decide⟩
      | some n =>
        dsimp only
        split
        · dsimp only; omega
        · exact ⟨by decide, by decide⟩
    · split
      · exact ⟨by decide, by decide⟩
      · rename_i h3
        cases h2 : zbO (s.drop 2) 0 with
        | none => exact ⟨by decide, by decide⟩
        | some n => have := znp h2 (by rw [List.length_drop]; omega); dsimp only; omega
theorem zpt {c bound : Int} {t : TokL} (hb : bound ≤ 65536) : 0 ≤ (zd1 c t bound).1.n ∧ (zd1 c t bound).1.n < 4294967296 := by
  unfold zd1
  split
  · exact ⟨by decide, by decide⟩
  split
  · split
    · exact ⟨by decide, by decide⟩
    · rename_i h
      have := ziB h
      dsimp only; omega
  split
  · split
    · exact ⟨show (0 : Int) ≤ 0 by decide, show (0 : Int) < 4294967296 by decide⟩
    · exact zio _
  split
  · split
    · exact ⟨show (0 : Int) ≤ 0 by decide, show (0 : Int) < 4294967296 by decide⟩
    · exact ⟨show (0 : Int) ≤ 0 by decide, show (0 : Int) < 4294967296 by decide⟩
  split
  · exact ⟨by decide, by decide⟩
  · rename_i h
    cases hf : namesL.find? (enS c t.text) with
    | none => rw [hf] at h; exact absurd rfl h
    | some x => exact of_decide_eq_true (List.all_eq_true.1 znB x (List.mem_of_find?_eq_some hf))
theorem ziY {fm : FormL} {bound : Int} (hb : bound ≤ 65536) : ∀ (l : List TokL) (k : Nat), ∀ a ∈ (zbo fm bound k l).1, 0 ≤ a.n ∧ a.n < 4294967296
  | [], k, a, h => by cases h
  | t :: r, k, a, h => by
    unfold zbo at h
    split at h
    · cases h
    · rcases List.mem_cons.1 h with rfl | h
      · exact zpt hb
      · exact ziY hb r (k + 1) a h
theorem zlM {n bound : Int} {l : List TokL} {fm : FormL} (hfm : zaO fm.op = fm) (hb : bound ≤ 65536) (h : (zfm n l bound fm).2.2.1 = 0) : (zfm n l bound fm).2.1 = true ∧ za3 bound (zfm n l bound fm).1 = 0 ∧ (zfm n l bound fm).1.U32 ∧ (zfm n l bound fm).2.2 = (0, 0) := by
  unfold zfm at h ⊢
  split at h
  · cases h
  rename_i h1
  rw [if_neg h1]
  split at h
  · cases h
  rename_i h2
  rw [if_neg h2]
  split at h
  · cases h
  rename_i h3
  rw [if_neg h3]
  split at h
  · cases h
  rename_i h4
  rw [if_neg h4]
  split at h
  · cases h
  rename_i h5
  rw [if_neg h5]
  split at h
  · rename_i h6; exact absurd h h6
  rename_i h6
  rw [if_neg h6]
  split at h
  · cases h
  rename_i h7
  rw [if_neg h7]
  split at h
  · cases h
  rename_i h8
  rw [if_neg h8]
  have e1 := Nn h1
  have hres : decide ((l.getD 0 zaS).kind = 2) = true → 1 ≤ (if (l.getD 0 zaS).kind = 2 then idL (l.getD 0 zaS).text bound else 0) ∧ (if (l.getD 0 zaS).kind = 2 then idL (l.getD 0 zaS).text bound else 0) < bound := fun hk => by
    have hk := of_decide_eq_true hk
    rw [if_pos hk]; exact ziB fun e => h2 ⟨hk, e⟩
  have hres0 : decide ((l.getD 0 zaS).kind = 2) = false → (if (l.getD 0 zaS).kind = 2 then idL (l.getD 0 zaS).text bound else 0) = 0 := fun hk => if_neg (of_decide_eq_false hk)
  have hty : fm.ty = true → 1 ≤ (if fm.ty = true then idL (l.getD (zfl l + 1) zaS).text bound else 0) ∧ (if fm.ty = true then idL (l.getD (zfl l + 1) zaS).text bound else 0) < bound := fun hk => by
    rw [if_pos hk]; exact ziB fun e => h5 ⟨hk, e⟩
  have hty0 : fm.ty = false → (if fm.ty = true then idL (l.getD (zfl l + 1) zaS).text bound else 0) = 0 := fun hk => if_neg (by rw [hk]; simp)
  have hf := zgP (ty := if fm.ty = true then idL (l.getD (zfl l + 1) zaS).text bound else 0) (res := if (l.getD 0 zaS).kind = 2 then idL (l.getD 0 zaS).text bound else 0) hfm e1 hres hres0 hty hty0 (Nn h6) (by simpa using h7)
  refine ⟨rfl, by rw [hf, if_neg h8], ⟨?_, ?_, ziY hb _ _⟩, rfl⟩
  · dsimp only
    cases ht : fm.ty with
    | false => rw [if_neg (by simp)]; exact ⟨by decide, by decide⟩
    | true => have := hty ht; rw [ht] at this; rw [if_pos rfl] at this ⊢; omega
  · dsimp only
    by_cases hk : (l.getD 0 zaS).kind = 2
    · have := hres (Dt hk); omega
    · rw [if_neg hk]; exact ⟨by decide, by decide⟩
theorem zlN {x : Tx} {bound : Int} (hb : bound ≤ 65536) (h : (zc5 x bound).2.2.1 = 0) : (zc5 x bound).2.2 = (0, 0) ∧ ((zc5 x bound).2.1 = true → za3 bound (zc5 x bound).1 = 0 ∧ (zc5 x bound).1.U32) := by
  unfold zc5 at h ⊢
  split at h
  · rename_i h1; exact absurd h h1
  rename_i h1
  rw [if_neg h1]
  unfold zem at h ⊢
  split at h
  · rename_i h2
    rw [if_pos h2]; exact ⟨rfl, fun q => by cases q⟩
  rename_i h2
  rw [if_neg h2]
  split at h
  · cases h
  rename_i h3
  rw [if_neg h3]
  split at h
  · cases h
  rename_i h4
  rw [if_neg h4]
  split at h
  · cases h
  rename_i h5
  rw [if_neg h5]
  split at h
  · cases h
  rename_i h6
  rw [if_neg h6]
  split at h
  · cases h
  rename_i h7
  rw [if_neg h7]
  cases hf : refT.find? (nmF ((zd8 x).1.getD (zfl (zd8 x).1) zaS).text) with
  | none => rw [hf] at h7; exact absurd rfl h7
  | some fm =>
    rw [hf, Option.getD_some] at h
    rw [Option.getD_some]
    have hg := zlM (ziK hf).2.1 hb h
    exact ⟨hg.2.2.2, fun _ => ⟨hg.2.1, hg.2.2.1⟩⟩
structure PaG (s : PaL) : Prop where
  none : s.words = 0 → s.insts = []
  gn : 0 ≤ s.gn ∧ s.gn < 4294967296
  bd : s.words ≠ 0 → 1 ≤ s.bd ∧ s.bd ≤ 65536
  words : s.words ≠ 0 → s.words = 5 + (s.insts.map fun i => zbD (zaO i.op) i.args).sum
  le : s.words ≤ 1048576
  ok : ∀ i ∈ s.insts, za3 s.bd i = 0 ∧ i.U32
theorem zlT {n : Int} {l : List TokL} (h : (zgv n l).2.1 = 0) : (0 ≤ (zgv n l).1.1 ∧ (zgv n l).1.1 < 4294967296) ∧ (1 ≤ (zgv n l).1.2 ∧ (zgv n l).1.2 ≤ 65536) ∧ (zgv n l).2 = (0, 0) := by
  unfold zgv at h ⊢
  split at h
  · cases h
  rename_i h1
  rw [if_neg h1]
  split at h
  · cases h
  rename_i h2
  rw [if_neg h2]
  split at h
  · cases h
  rename_i h3
  rw [if_neg h3]
  split at h
  · cases h
  rename_i h4
  rw [if_neg h4]
  split at h
  · rename_i q; exact absurd h q
  rename_i h5
  rw [if_neg h5]
  split at h
  · cases h
  rename_i h6
  rw [if_neg h6]
  split at h
  · cases h
  rename_i h7
  rw [if_neg h7]
  split at h
  · rename_i q; exact absurd h q
  rename_i h8
  rw [if_neg h8]
  split at h
  · cases h
  rename_i h9
  rw [if_neg h9]
  split at h
  · cases h
  rename_i h10
  rw [if_neg h10]
  exact ⟨zio _, by dsimp only; omega, rfl⟩
theorem zlU {x : Tx} (h : (zdG x).2.1 = 0) : (0 ≤ (zdG x).1.1 ∧ (zdG x).1.1 < 4294967296) ∧ (1 ≤ (zdG x).1.2 ∧ (zdG x).1.2 ≤ 65536) ∧ (zdG x).2 = (0, 0) := by
  unfold zdG at h ⊢
  split at h
  · rename_i q; exact absurd h q
  rename_i h1
  rw [if_neg h1]
  exact zlT h
theorem PaG.start : PaG ⟨0, 0, 0, []⟩ := ⟨fun _ => rfl, ⟨by decide, by decide⟩, fun h => absurd rfl h, fun h => absurd rfl h, by decide, fun i h => by cases h⟩
theorem PaG.step {s s' : PaL} {x : Tx} (g : PaG s) (h : zkG x s = .ok s') : PaG s' := by
  unfold zkG at h
  split at h
  · rename_i h0
    split at h
    · cases h; exact g
    · split at h
      · cases h
      · rename_i h2
        cases h
        have hg := zlU (Nn h2)
        exact ⟨fun q => (by cases q), hg.1, fun _ => hg.2.1, fun _ => rfl, show (5 : Nat) ≤ 1048576 by decide, fun i hi => (by cases hi)⟩
  · rename_i h0
    split at h
    · cases h
    · rename_i h1
      have hg := zlN (g.bd h0).2 (Nn h1)
      split at h
      · cases h; exact g
      · rename_i h2
        split at h
        · cases h
        · rename_i h3
          cases h
          have hi := hg.2 (by simpa using h2)
          refine ⟨fun q => absurd q (by dsimp only; omega), g.gn, fun _ => g.bd h0, fun _ => ?_, by dsimp only; omega, fun i hi2 => ?_⟩
          · have := g.words h0
            dsimp only
            rw [List.map_append, List.sum_append, List.map_singleton, List.sum_singleton]; omega
          · rcases List.mem_append.1 hi2 with hi2 | hi2
            · exact g.ok i hi2
            · obtain rfl := List.mem_singleton.1 hi2; exact hi
end Go.SK
namespace Go.SK
def nls : Tx → Nat
  | [] => 0
  | c :: r => (if c.toNat = 10 then 1 else 0) + nls r
theorem zeR : ∀ (a b : Tx), nls (a ++ b) = nls a + nls b
  | [], b => by simp [nls]
  | c :: a, b => by rw [List.cons_append, nls, nls, zeR a b, Nat.add_assoc]
theorem zfw {t : Tx} {i : Nat} (h : i < t.length) : nls (t.take (i + 1)) = nls (t.take i) + (if (t.getD i 0).toNat = 10 then 1 else 0) := by
  rw [zbL (d := 0) h, zeR]; simp [nls]
theorem zfx (t : Tx) {i j : Nat} (h : i ≤ j) : nls (t.take i) ≤ nls (t.take j) := by
  have e : t.take j = t.take i ++ (t.drop i).take (j - i) := by
    rw [← List.take_add, show i + (j - i) = j by omega]
  rw [e, zeR]; omega
theorem zqv (t : Tx) : nls t ≤ t.length := by
  induction t with
  | nil => exact Nat.le_refl _
  | cons c r ih => rw [nls, List.length_cons]; split <;> omega
def endJ (t : Tx) (a : Int) (i : Nat) (ln : Int) (en : Nat) : Prop := ln = 1 + (nls (t.take i) : Int) ∧ ((en = t.length ∧ ln ≤ a) ∨ (en < i ∧ (t.getD en 0).toNat = 10 ∧ (nls (t.take en) : Int) + 1 = a))
section
variable {t : Tx} {a ln : Int} {i en : Nat}
theorem endJ.start (h : 1 ≤ a) : endJ t a 0 1 t.length := ⟨by simp [nls], .inl ⟨rfl, h⟩⟩
theorem endJ.hit (h : endJ t a i ln en) (hi : i < t.length) (h10 : (t.getD i 0).toNat = 10) (h1 : ln = a) (h2 : en = t.length) : endJ t a (i + 1) (ln + 1) i := by
  have e := h.1
  refine ⟨by rw [zfw hi, if_pos h10]; omega, .inr ⟨by omega, h10, by omega⟩⟩
theorem endJ.at (h : endJ t a t.length ln en) {e : Nat} (he : e ≤ t.length) (hx : e = t.length ∨ (e < t.length ∧ (t.getD e 0).toNat = 10)) (hn : (nls (t.take e) : Int) + 1 = a) : en = e := by
  have e1 := h.1
  rcases h.2 with ⟨h2, h3⟩ | ⟨h2, h3, h4⟩
  · rcases hx with hx | ⟨hx, h10⟩
    · omega
    · have h5 := zfw hx
      have h6 := zfx t (i := e + 1) (j := t.length) Om
      rw [if_pos h10] at h5
      omega
  · have h5 := zfw h2
    rw [if_pos h3] at h5
    rcases hx with hx | ⟨hx, h10⟩
    · have h6 := zfx t (i := en + 1) (j := e) Om
      omega
    · have h7 := zfw hx
      rw [if_pos h10] at h7
      rcases Nat.lt_trichotomy e en with hlt | heq | hlt
      · have := zfx t (i := e + 1) (j := en) Om; omega
      · exact heq.symm
      · have := zfx t (i := en + 1) (j := e) Om; omega
end
end Go.SK
namespace Go.SK
theorem zgc (fm : FormL) : ∀ (l : List ArgP) (k : Nat), (zc0 fm k l).length = l.length
  | [], _ => rfl
  | a :: r, k => by rw [zc0, List.length_cons, List.length_cons, zgc fm r (k + 1)]
theorem zgG {bd : Int} : ∀ (l : List InstL) (n k : Nat), (zbF bd n k l).1 = 0 → ∀ i ∈ l, za3 bd i = 0
  | [], _, _, _, i, hi => by cases hi
  | i :: l, n, k, h, j, hj => by
    unfold zbF at h
    split at h
    · rename_i q; exact absurd h q
    rename_i h1
    split at h
    · cases h
    rcases List.mem_cons.1 hj with rfl | hj
    · exact Nn h1
    · exact zgG l _ _ h j hj
theorem zlp {bd : Int} {l : List InstL} (hb : 0 ≤ bd) (h : (za7 bd l).1 = 0) : (1 ≤ bd ∧ bd ≤ 65536) ∧ ∀ i ∈ l, za3 bd i = 0 := by
  unfold za7 at h
  split at h
  · cases h
  · exact ⟨by omega, zgG l _ _ h⟩
theorem zoA {g1 b1 g2 b2 : Int} {l m : List InstL} (h1 : (za7 b1 l).1 = 0) (h2 : (za7 b2 m).1 = 0) (hg1 : 0 ≤ g1 ∧ g1 < 4294967296) (hg2 : 0 ≤ g2 ∧ g2 < 4294967296) (hb1 : 0 ≤ b1) (hb2 : 0 ≤ b2) (hu1 : ∀ i ∈ l, i.U32) (hu2 : ∀ i ∈ m, i.U32) (h : (zce g1 b1 l).1 = (zce g2 b2 m).1) : g1 = g2 ∧ b1 = b2 ∧ l = m := by
  have r1 := (zh3 h1 hg1 hu1 hb1 (zhe h1 hg1 hu1 hb1)).2
  have r2 := (zh3 h2 hg2 hu2 hb2 (zhe h2 hg2 hu2 hb2)).2
  rw [h, r2] at r1
  injection r1 with r3 _
  injection r3 with r4 r5
  injection r5 with r6 r7
  exact ⟨r4.symm, r6.symm, r7.symm⟩
theorem zoB {gn bd : Int} {l : List InstL} (hs : (za7 bd l).1 ≠ 0) : zce gn bd l = ([], za7 bd l) := if_pos hs
end Go.SK
namespace Go.SK
theorem zg1 (fm : FormL) : ∀ (l : List ArgP) (k i : Nat), i < l.length → zc0 fm k (l.take (i + 1)) = zc0 fm k (l.take i) ++ [zd2 (zav fm ((k + i : Nat) : Int)) (l.getD i zeroA)]
  | [], _, i, h => by cases h
  | a :: r, k, 0, _ => by simp [zc0]
  | a :: r, k, i + 1, h => by
    rw [List.take_succ_cons, List.take_succ_cons, zc0, zc0, zg1 fm r (k + 1) i (by simpa using h), show k + 1 + i = k + (i + 1) by omega]
    simp
def zjq (i : InstL) : List TokL := if (zaO i.op).res = true then [idK i.res, ⟨5, [61], 0⟩] else []
def zli (i : InstL) : List TokL := zjq i ++ (⟨1, (zaO i.op).name, 0⟩ :: (if (zaO i.op).ty = true then [idK i.ty] else []))
theorem zgE (i : InstL) : zeL i = zli i ++ zc0 (zaO i.op) 0 i.args := by
  unfold zeL zli zjq; simp
theorem znd : refT.all (fun f => decide (f.name.length ≤ 60)) = true := by decide +kernel
theorem znC : namesL.all (fun x => decide (x.name.length ≤ 60)) = true := by decide +kernel
theorem zmW (op : Int) : (zaO op).name.length ≤ 60 := by
  unfold zaO
  cases h : zcR op with
  | none => exact Nat.zero_le _
  | some f => exact of_decide_eq_true (List.all_eq_true.1 znd f (zcp h).1)
theorem znD (c n : Int) : ((namesL.find? (enN c n)).getD zc3).name.length ≤ 60 := by
  cases h : namesL.find? (enN c n) with
  | none => exact Nat.zero_le _
  | some x => exact of_decide_eq_true (List.all_eq_true.1 znC x (List.mem_of_find?_eq_some h))
theorem zga {n : Int} (h0 : 0 ≤ n) (h1 : n < 4294967296) : (zcy n).length ≤ 10 := zgb (k := 9) h0 Om
theorem zpu {c : Int} {a : ArgP} (h0 : 0 ≤ a.n) (h1 : a.n < 4294967296) : 4 * (zd2 c a).text.length + 3 ≤ 300 + 16 * zaD a := by
  have hd := zga h0 h1
  have he := znD c a.n
  unfold zd2 zaD
  split
  · dsimp only; omega
  split
  · dsimp only; omega
  split
  · dsimp only; omega
  · dsimp only; omega
theorem zi0 {fm : FormL} : ∀ (l : List ArgP) (k : Nat), (∀ a ∈ l, 0 ≤ a.n ∧ a.n < 4294967296) → wsz (zc0 fm k l) ≤ 316 * (l.map zaD).sum
  | [], _, _ => Nat.zero_le _
  | a :: r, k, h => by
    have h1 := zpu (c := zav fm (k : Int)) (h a (.head _)).1 (h a (.head _)).2
    have h2 := zi0 (fm := fm) r (k + 1) (fun b hb => h b (.tail _ hb))
    have h3 : 1 ≤ zaD a := by unfold zaD; split <;> omega
    rw [zc0, wsz, List.map_cons, List.sum_cons]; omega
theorem zjl : ∀ (l m : List TokL), wsz (l ++ m) = wsz l + wsz m
  | [], m => by rw [List.nil_append, wsz, Nat.zero_add]
  | t :: r, m => by rw [List.cons_append, wsz, wsz, zjl r m]; omega
theorem zkv {i : InstL} (hu : i.U32) : wsz (zli i) ≤ 500 ∧ (zli i).length ≤ 4 := by
  have h1 := zga hu.ty.1 hu.ty.2
  have h2 := zga hu.res.1 hu.res.2
  have h3 := zmW i.op
  unfold zli zjq idK
  constructor
  · rw [zjl]
    have e1 : wsz (if (zaO i.op).res = true then [⟨2, zcy i.res, 0⟩, ⟨5, [61], 0⟩] else []) ≤ 60 := by
      split
      · simp only [wsz, List.length_cons, List.length_nil]; omega
      · exact Nat.zero_le _
    have e2 : wsz (if (zaO i.op).ty = true then [⟨2, zcy i.ty, 0⟩] else []) ≤ 60 := by
      split
      · simp only [wsz]; omega
      · exact Nat.zero_le _
    rw [wsz]; dsimp only; omega
  · rw [List.length_append, List.length_cons]
    split <;> split <;> simp
theorem zov {i : InstL} (hu : i.U32) : wsz (zeL i) ≤ 500 + 316 * (i.args.map zaD).sum ∧ (zeL i).length ≤ 4 + i.args.length := by
  have h1 := zkv hu
  have h2 := zi0 (fm := zaO i.op) i.args 0 hu.args
  rw [zgE, zjl, List.length_append, zgc]
  omega
theorem InstL.Okay.u32 {i : InstL} (h : i.Okay) : i.U32 := ⟨h.ty, h.res, fun a ha => (h.args a ha).1⟩
theorem zlh {i : InstL} (hu : i.U32) (hs : (i.args.map zaD).sum ≤ 900000000) : wsz (zeL i) ≤ 1099511627776 ∧ (zeL i).length ≤ 1099511627776 := by
  have h1 := zov hu
  have h2 := zeU i.args
  omega
theorem zlg {bd : Int} {i : InstL} (hf : za3 bd i = 0) (hu : i.U32) : wrE (zeL i) = 0 ∧ ziv bd i = (wrS (zeL i), 0) := by
  obtain ⟨o, ho, _, _⟩ := zeT hf hu
  refine ⟨(zc9 (zkr ho)).2, ?_⟩
  unfold ziv; rw [if_neg (by rw [hf]; simp)]
theorem zjO {bd : Int} {l : List InstL} {i : Nat} {y : InstL} (hi : l[i]? = some y) : zbK bd (l.take (i + 1)) = zbK bd (l.take i) ++ ((ziv bd y).1 ++ [10]) := by
  unfold zbK
  rw [List.take_add_one, hi, List.flatMap_append]; simp
theorem zjN {bd : Int} (l : List InstL) (i : Nat) : (zbK bd (l.take i)).length ≤ (zbK bd l).length := by
  conv => rhs; rw [← List.take_append_drop i l]
  unfold zbK; rw [List.flatMap_append, List.length_append]; omega
def zdb (gn bd : Int) (l : List InstL) (i : Nat) : Tx := wrS (znr gn bd) ++ 10 :: zbK bd (l.take i)
section
variable {gn bd : Int} {l : List InstL}
theorem zfM : zdb gn bd l 0 = wrS (znr gn bd) ++ [10] := rfl
theorem zlk {i : Nat} {y : InstL} (hi : l[i]? = some y) : zdb gn bd l (i + 1) = zdb gn bd l i ++ ((ziv bd y).1 ++ [10]) := by
  unfold zdb; rw [zjO hi]; simp
theorem zh4 (hs : (za7 bd l).1 = 0) : zce gn bd l = (zdb gn bd l l.length, (0, 0)) := by
  unfold zce zdb; rw [if_neg (by rw [hs]; simp), List.take_length]
theorem zmN (hs : (za7 bd l).1 = 0) (hg : 0 ≤ gn ∧ gn < 4294967296) (hu : ∀ i ∈ l, i.U32) (hb0 : 0 ≤ bd) (i : Nat) : (zdb gn bd l i).length ≤ 16777216 := by
  have h := zhe hs hg hu hb0
  rw [zh4 hs] at h
  have h2 := zjN (bd := bd) l i
  unfold zdb at h ⊢
  rw [List.take_length] at h
  simp only [List.length_append, List.length_cons] at h ⊢
  omega
theorem zo8 (hg : 0 ≤ gn ∧ gn < 4294967296) (hb : 0 ≤ bd ∧ bd < 4294967296) : wsz (znr gn bd) ≤ 1000 := by
  have h1 := zga hg.1 hg.2
  have h2 := zga hb.1 hb.2
  unfold znr
  simp only [wsz, modW, List.length_cons, List.length_nil]; omega
end
def oneX : Tx := [109, 111, 100, 117, 108, 101, 32, 55, 32, 57, 10, 37, 50, 32, 61, 32, 79, 112, 73, 65, 100, 100, 32, 37, 49, 32, 37, 51, 32, 37, 52, 10]
theorem zoX : zce 7 9 oneL = (oneX, (0, 0)) := by decide +kernel
theorem zgF {gn bd se sa : Int} {l : List InstL} {x : Tx} (h : zce gn bd l = (x, (se, sa))) : (se ≠ 0 → x = [] ∧ za7 bd l = (se, sa)) ∧ (se = 0 → sa = 0 ∧ (za7 bd l).1 = 0) := by
  unfold zce at h
  split at h
  · rename_i q
    injection h with h1 h2
    exact ⟨fun _ => ⟨h1.symm, h2⟩, fun e => absurd (by rw [h2]; exact e) q⟩
  · rename_i q
    injection h with h1 h2
    injection h2 with h3 h4
    exact ⟨fun e => absurd h3.symm e, fun _ => ⟨h4.symm, Nn q⟩⟩
end Go.SK
namespace Go.SK
open Go.RowKit Go.ChangeShapes Go.WideShapes Go.ChangeAt
section
variable {P : Program} {ty : TypeId} {ρ : Operand → Value} {w0 w : World} {C : Value → World → Prop} {M : Nat → Prop} {L L' D : List Res}
variable {T U e : TypeId} {de : TypeDesc} {sz bytes sz2 b2 es eb : Nat} {zs ez z2 : List Value} {ao : Option Addr} {n cap : Nat} {xs : List Value}
theorem zh7 (s : List UInt8) : Lib.strCells ⟨s.toArray⟩ = s.flatMap byC := by
  rw [zdA]; unfold Lib.strCells; simp
def ByteF (P : Program) (e : TypeId) : Prop := (P.info? e).map (fun i => (i.zero, i.size, i.bytes)) = some (some (.int .u8 0), 1, 1)
theorem ByteF.parts (h : ByteF P e) : ∃ i, P.info? e = some i ∧ i.zero = some (.int .u8 0) ∧ i.size = 1 ∧ i.bytes = 1 := by
  obtain ⟨i, hi, h2⟩ := Option.map_eq_some_iff.1 h
  injection h2 with h3 h4
  injection h4 with h5 h6
  exact ⟨i, hi, h3, h5, h6⟩
theorem zhS {x y : Operand} {s : List UInt8} (hst : St w0 M L D w) (hT : TyF P T (.slice e) sz bytes zs) (hU : TyF P U .string sz2 b2 z2) (he : ByteF P e)
    (hr : Rem (Res.sl ao n cap e 1 xs) L L') (hx : ρ x = .slice ao n cap) (hy : ρ y = str s) (hb : n + s.length ≤ 140737488355328)
    (h : ∀ (w' : World) (ao' : Option Addr) (cap' : Nat), St w0 M (Res.sl ao' (n + s.length) cap' e 1 (xs ++ s.flatMap byC) :: L') D w' → C (.slice ao' (n + s.length) cap') w') :
    Op1 P (.call ⟨.builtin .append, #[x, y], #[T, U]⟩) ty ρ w C := by
  obtain ⟨i, h1, h4, h2, h3⟩ := he.parts
  have hown : w.ownsRow 0 e 1 (.slice ao n cap) n xs := hst.hL _ hr.mem
  have hs : (⟨s.toArray⟩ : ByteArray).size = s.length := by simp [ByteArray.size]
  have hml := zcI
  have key : ∃ v' w', (Builtin.append_ #[T, U] ty #[.slice ao n cap, str s]).run P w = .ok v' w' ∧ w'.ownsRow 0 e 1 v' (n + s.length) (xs ++ s.flatMap byC) ∧ w.grownBy w' (Value.slice ao n cap).ownBlock ∧
      ∀ k, v'.ownBlock = some k → (Value.slice ao n cap).ownBlock = some k ∨ w.heap.size ≤ k := by
    rw [← zh7]
    rcases hown.2 with ⟨hv, h0⟩ | ⟨g, cc, cur, hv, hb0, hg, hnc, hcm, hcs, htake⟩
    · obtain ⟨v', w', r1, r2, r3, _⟩ := Lib.run_append_own_string w w.heap.size T U ty e i hT.und hU.und h1 h4 h2 h3 (.slice ao n cap) n xs ⟨hown.1, .inl ⟨hv, h0⟩⟩ ⟨s.toArray⟩ (by rw [hs]; omega) (by rw [hs]; exact hb) (Nat.le_refl _)
      rw [hs] at r2
      exact ⟨v', w', r1, ⟨r2.1, r2.2.imp id fun ⟨g, cc, cur, e1, _, e2⟩ => ⟨g, cc, cur, e1, Nat.zero_le _, e2⟩⟩, r3, fun k hk => .inr (r2.lt k hk).1⟩
    · cases hv
      have hxl : xs.length = n := by simpa using hown.1
      obtain ⟨v', w', r1, r2, r3, _⟩ := Lib.run_append_own_string w 0 T U ty e i hT.und hU.und h1 h4 h2 h3 _ n xs hown ⟨s.toArray⟩ (by rw [hs]; omega) (by rw [hs]; exact hb) (Nat.zero_le _)
      rw [hs] at r2
      by_cases hroom : n + s.length ≤ cap
      · have r4 := Lib.run_append_room_string (P := P) w T U ty e i hT.und hU.und h1 h2 g n cap cur hg ⟨s.toArray⟩ (by rw [hs]; exact hroom) (by rw [hs, hcs]; omega)
        rw [r1] at r4
        injection r4 with e1 e2
        refine ⟨v', w', r1, r2, r3, fun k hk => .inl ?_⟩
        rw [e1] at hk
        exact hk
      · have r4 := Lib.run_append_grow_string (P := P) w T U ty e i (.int .u8 0) hT.und hU.und h1 h4 ⟨g, 0, none⟩ n cap xs (by rw [h2]; simpa using hxl) (hown.cells (g := g) rfl) ⟨s.toArray⟩ (by rw [hs]; omega) (by rw [hs]; omega) (by rw [h3, hs]; exact growslice_fits (by omega) (by omega))
        rw [r1] at r4
        injection r4 with e1 e2
        refine ⟨v', w', r1, r2, r3, fun k hk => .inr ?_⟩
        rw [e1] at hk
        exact Nat.le_of_eq (Option.some.inj hk)
  obtain ⟨v', w', hrun, hown', hg, hblk⟩ := key
  have hshape : ∃ ao' cap', v' = .slice ao' (n + s.length) cap' := by
    rcases hown'.2 with ⟨hv, h0⟩ | ⟨g, cc, cur, hv, _⟩
    · exact ⟨none, 0, by rw [hv, h0]⟩
    · exact ⟨_, _, hv⟩
  obtain ⟨ao', cap', rfl⟩ := hshape
  refine zbC (args := [x, y]) (v := .slice ao' (n + s.length) cap') (w' := w') (fun cs => ?_) (h w' ao' cap' ?_)
  · simp only [List.map_cons, List.map_nil, hx, hy]
    simp [Go.builtin, hrun]
  · exact (hst.front hr).upd .here ⟨hg.os, hg.tape, hg.output, hg.size, fun k hk hne => hg.block k hk (fun e => hne e.symm)⟩ hown' hblk
theorem zid {b : Nat} {B : TypeId} {vs : List Value} (h : (Res.row b B vs).holds w) : w.shape? b = some (B, vs.length) := by
  have h' : w.heap[b]? = some (.cells vs.toArray B (0, 0)) := h
  simp [World.shape?, h']
theorem zjb {x : Operand} {S D0 t B : TypeId} {dt : TypeDesc} {b off st bt : Nat} {zt vs : List Value} (hS : TyF P S (.pointer t) sz bytes zs) (hD : TyF P D0 .unsafePointer sz2 b2 z2) (ht : TyF P t dt st bt zt) (hj : Nat.ble 1 st = true) (hx : ρ x = .pointer (some ⟨b, off, none⟩))
    (hb : (Res.row b B vs).holds w) (ho : off < vs.length) (h : C (.pointer (some ⟨b, off, none⟩)) w) : Op1 P (.convert S D0 x) ty ρ w C := by
  obtain ⟨i, z, h1, h2, _⟩ := ht.info
  have hj' := Nat.le_of_ble_eq_true hj
  refine zbl (v := .pointer (some ⟨b, off, none⟩)) (w' := w) ?_ h
  simp only [execOp, hx, Sem.run_bind]
  rw [Lib.run_to_unsafe (P := P) (w := w) ⟨b, off, none⟩ hS.und hD.und h1 (by omega) (zid hb) ho]
  simp [Result.andThen]
theorem zgz {x : Operand} {S D0 u B : TypeId} {du : TypeDesc} {b off su bu : Nat} {zu vs : List Value} (hS : TyF P S .unsafePointer sz bytes zs) (hD : TyF P D0 (.pointer u) sz2 b2 z2) (hu : TyF P u du su bu zu) (hx : ρ x = .pointer (some ⟨b, off, none⟩))
    (hb : (Res.row b B vs).holds w) {m : Nat} (hm : vs.length = m) (hl : liesAt P P.depth B (m / P.cellsOf B) off u 1 = true) (h : C (.pointer (some ⟨b, off, none⟩)) w) : Op1 P (.convert S D0 x) ty ρ w C := by
  subst hm
  obtain ⟨i, z, h1, h2, _⟩ := hu.info
  refine zbl (v := .pointer (some ⟨b, off, none⟩)) (w' := w) ?_ h
  simp only [execOp, hx, Sem.run_bind]
  rw [Lib.run_from_unsafe (P := P) (w := w) ⟨b, off, none⟩ hS.und hD.und h1 (zid hb) hl]
  simp [Result.andThen]
theorem zgB {g : FuncId} {fn : Func} {x : Value} (hf : P.funcs[g]? = some fn) (hname : (fn.name == "runtime.NumGoroutine") = false) (hb : fn.body.isNone = true) (hn : Extern.findNext fn = none) (he : Extern.find fn = some Extern.AbiNoEscape.same) (h : C x w) : CallV P (.func (.func g) #[] #[]) [x] w C := by
  refine Inv.value (v := x) (w' := w) ?_ h
  have := run_callFunc_extern hf hname hb hn he #[x] w
  rw [Lib.run_noEscape] at this
  simpa [Deferred.ofValue, invoke, Sem.run_bind, Result.andThen] using this
theorem zjd {g : FuncId} {fn : Func} {a1 : Operand} {x : Value} {tys : Array TypeId} (hf : P.funcs[g]? = some fn) (hname : (fn.name == "runtime.NumGoroutine") = false) (hb : fn.body.isNone = true) (hn : Extern.findNext fn = none) (he : Extern.find fn = some Extern.AbiNoEscape.same)
    (hp : ρ (.func g) = .func (.func g) #[] #[]) (h1 : ρ a1 = x) (h : C x w) : Op1 P (.call ⟨.value (.func g), #[a1], tys⟩) ty ρ w C :=
  zdq (args := [a1]) (vs := [x]) hp (by simp [h1]) (zgB hf hname hb hn he h)
theorem znA (hT : TyF P T (.pointer e) sz bytes zs) : (Op.equal T (.pointer none) (.pointer none)).run P w = .ok true w := by
  show (Op.equalIn (9999 + 1) T (.pointer none) (.pointer none)).run P w = _
  rw [Op.equalIn]
  simp [Sem.run_bind, hT.run_und, Result.andThen]
theorem zml {x y : Operand} {T2 : TypeId} (hT : TyF P T (.pointer e) sz bytes zs) (hx : ρ x = .pointer none) (hy : ρ y = .pointer none) (h : C (.bool true) w) : Op1 P (.binOp .eql T x y T2) ty ρ w C := by
  refine zbl (v := .bool true) (w' := w) ?_ h
  simp only [execOp, hx, hy, eqGuard]
  simp [binOp, znA hT, Result.andThen]
theorem zpf {b o : Nat} (hT : TyF P T (.pointer e) sz bytes zs) (he : TyF P e de es eb ez) : (Op.equal T (.pointer (some ⟨b, o, none⟩)) (.pointer (some ⟨b, o, none⟩))).run P w = .ok true w := by
  show (Op.equalIn (9999 + 1) T (.pointer (some ⟨b, o, none⟩)) (.pointer (some ⟨b, o, none⟩))).run P w = _
  rw [Op.equalIn]
  simp [Sem.run_bind, hT.run_und, he.run_size, Result.andThen, sameAddr]
theorem zob {x y : Operand} {T2 : TypeId} {b o : Nat} (hT : TyF P T (.pointer e) sz bytes zs) (he : TyF P e de es eb ez) (hx : ρ x = .pointer (some ⟨b, o, none⟩)) (hy : ρ y = .pointer (some ⟨b, o, none⟩)) (h : C (.bool false) w) : Op1 P (.binOp .neq T x y T2) ty ρ w C := by
  refine zbl (v := .bool false) (w' := w) ?_ h
  simp only [execOp, hx, hy, eqGuard]
  simp [binOp, zpf hT he, Result.andThen]
theorem zgy {x : Operand} {a : Addr} {c : Nat} {tys : Array TypeId} (hx : ρ x = .slice (some a) n c) (hc : 0 < c) (h : C (.pointer (some a)) w) : Op1 P (.call ⟨.builtin .unsafeSliceData, #[x], tys⟩) ty ρ w C :=
  zbC (args := [x]) (v := .pointer (some a)) (w' := w) (fun cs => by
    have := Lib.run_unsafeSliceData_row (P := P) w tys ty a n c Om
    simp [hx, Go.builtin, this]) h
theorem Kept.freeze (w : World) (g n : Nat) : Kept (· = g) w (w.freeze ⟨g, 0, none⟩ n) := by
  unfold World.freeze
  split
  · exact Kept.refl _ _
  · exact ⟨rfl, rfl, rfl, by simp, fun k hk hne => by
      simp only [Array.getElem?_modify]
      rw [if_neg (fun e => hne e.symm)]⟩
theorem zhQ {x y : Operand} {PT IT : TypeId} {l : List UInt8} {g : Nat} {k : Int} (hst : St w0 M L D w) (hr : Rem (Res.sl (some ⟨g, 0, none⟩) n cap e 1 xs) L L') (hn : n = l.length) (hxs : xs = l.flatMap byC) (hP : TyF P PT (.pointer e) sz bytes zs) (hc : P.cellsOf e = 1) (h0 : l ≠ [])
    (hx : ρ x = .pointer (some ⟨g, 0, none⟩)) (hy : ρ y = .int .i64 k) (hk : k = l.length) (h : ∀ w' : World, St w0 M (Res.emp :: L') D w' → C (str l) w') : Op1 P (.call ⟨.builtin .unsafeString, #[x, y], #[PT, IT]⟩) ty ρ w C := by
  subst hn hxs hk
  have hown : w.ownsRow 0 e 1 (.slice (some ⟨g, 0, none⟩) l.length cap) l.length (l.flatMap byC) := hst.hL _ hr.mem
  have hml := zcI
  rcases hown.2 with ⟨hv, _⟩ | ⟨g', cc, cur, hv, hb0, hg, hnc, hcm, hcs, htake⟩
  · cases hv
  cases hv
  have hrun := Lib.run_unsafeString_row (P := P) w PT IT ty e hP.und hc g cur.size (by simp [World.shape?, hg]) l h0 (by omega) (by omega) (fun j x hx => hown.cells (g := g) rfl j (.int .u8 x.toNat) (by rw [zdA, List.getElem?_map, hx]; rfl))
  refine zbC (args := [x, y]) (v := str l) (w' := w.freeze ⟨g, 0, none⟩ l.length) (fun cs => ?_) (h _ ?_)
  · simp only [List.map_cons, List.map_nil, hx, hy]
    simp [Go.builtin, hrun]; rfl
  · refine (hst.front hr).upd .here ((Kept.freeze w g l.length).mono fun c _ hc => ?_) trivial (fun c hc => absurd hc id)
    subst hc; rfl
end
end Go.SK
namespace Go.SK
open Go.RowKit Go.ChangeShapes Go.WideShapes Go.ChangeAt
abbrev BdR (T e : TypeId) (b : Nat) (p : Value) (ao : Option Addr) (cp : Nat) (l : List UInt8) : Res := Res.star [Res.row b T [p, .slice ao l.length cp], Res.sl ao l.length cp e 1 (l.flatMap byC)]
theorem BdR.app {T e : TypeId} {b : Nat} {p : Value} {ao : Option Addr} {cp : Nat} {l s : List UInt8} {w0 w : World} {M : Nat → Prop} {L D : List Res}
    (h : St w0 M (Res.row b T [p, .slice ao (l.length + s.length) cp] :: Res.sl ao (l.length + s.length) cp e 1 (l.flatMap byC ++ s.flatMap byC) :: L) D w) : St w0 M (BdR T e b p ao cp (l ++ s) :: L) D w := by
  rw [← List.length_append, ← List.flatMap_append] at h
  exact St.pack (L1 := [_, _]) h
abbrev VsR (T e : TypeId) (es : Nat) {α : Type} (g : α → List Value) (b : Nat) (ao : Option Addr) (cp : Nat) (l : List α) : Res := Res.star [Res.row b T [.slice ao l.length cp], Res.sl ao l.length cp e es (l.flatMap g)]
theorem VsR.app {α : Type} {g : α → List Value} {T e : TypeId} {es b : Nat} {ao : Option Addr} {cp : Nat} {l s : List α} {w0 w : World} {M : Nat → Prop} {L D : List Res}
    (h : St w0 M (Res.row b T [.slice ao (l.length + s.length) cp] :: Res.sl ao (l.length + s.length) cp e es (l.flatMap g ++ s.flatMap g) :: L) D w) : St w0 M (VsR T e es g b ao cp (l ++ s) :: L) D w := by
  rw [← List.length_append, ← List.flatMap_append] at h
  exact St.pack (L1 := [_, _]) h
end Go.SK
namespace Go.SK
section
variable {c bound : Int} {t : TokL}
theorem znO : zd1 0 t bound = (zeroA, 70) := if_pos (.inl rfl)
end
end Go.SK
namespace Go.SK
section
variable {n bound : Int} {l : List TokL} {m : Nat} {fm : FormL} {res ty : Int} {q j : Nat} {ags : List ArgP}
structure LnA (l : List TokL) (m : Nat) : Prop where
  h0 : 0 < l.length
  k5 : (l.getD 0 zaS).kind = 2 → 1 < l.length ∧ (l.getD 1 zaS).kind = 5 ∧ m = 2
  k0 : ¬ (l.getD 0 zaS).kind = 2 → m = 0
theorem LnA.start (h0 : 0 < l.length) (h : ¬ (l.getD 0 zaS).kind = 2) : LnA l 0 := ⟨h0, fun q => absurd q h, fun _ => rfl⟩
theorem LnA.said (h : (l.getD 0 zaS).kind = 2) (h1 : 1 < l.length) (h5 : (l.getD 1 zaS).kind = 5) : LnA l 2 := ⟨by omega, fun _ => ⟨h1, h5, rfl⟩, fun q => absurd h q⟩
theorem LnA.le (h : LnA l m) : m ≤ l.length := by
  by_cases hk : (l.getD 0 zaS).kind = 2
  · have := h.k5 hk; omega
  · have := h.k0 hk; omega
theorem LnA.at (h : LnA l m) : zfl l = m := by
  unfold zfl
  by_cases hk : (l.getD 0 zaS).kind = 2
  · rw [if_pos hk, (h.k5 hk).2.2]
  · rw [if_neg hk, h.k0 hk]
theorem LnA.rest (h : LnA l m) : zem n l bound = if l.length = m then (zbg, false, (72, n)) else if (l.getD m zaS).kind ≠ 1 then (zbg, false, (70, (l.getD m zaS).at_))
    else if (refT.find? (nmF (l.getD m zaS).text)).isSome = false then (zbg, false, (71, (l.getD m zaS).at_))
    else zfm n l bound ((refT.find? (nmF (l.getD m zaS).text)).getD zg8) := by
  have h0 := h.h0
  unfold zem
  rw [h.at]
  by_cases hk : (l.getD 0 zaS).kind = 2
  · obtain ⟨h1, h5, rfl⟩ := h.k5 hk
    rw [if_neg (by omega), if_neg (fun q => by omega), if_neg (fun q => q.2 h5)]
    by_cases h2 : l.length = 2
    · rw [if_pos ⟨hk, h2⟩, if_pos h2]
    · rw [if_neg (fun q => h2 q.2), if_neg h2]
  · obtain rfl := h.k0 hk
    rw [if_neg (by omega), if_neg (fun q => hk q.1), if_neg (fun q => hk q.1), if_neg (fun q => hk q.1)]
    conv => rhs; rw [if_neg (show ¬ l.length = 0 by omega)]
structure LnB (l : List TokL) (m : Nat) (fm : FormL) : Prop where
  a : LnA l m
  lt : m < l.length
  k1 : (l.getD m zaS).kind = 1
  fd : refT.find? (nmF (l.getD m zaS).text) = some fm
theorem LnB.op (h : LnB l m fm) : zaO fm.op = fm := (ziK h.fd).2.1
theorem LnB.rest (h : LnB l m fm) : zem n l bound = zfm n l bound fm := by
  rw [h.a.rest, if_neg (by have := h.lt; omega), if_neg (fun q => q h.k1), h.fd, if_neg (by simp)]; rfl
structure LnC (bound : Int) (l : List TokL) (m : Nat) (fm : FormL) (res : Int) : Prop where
  b : LnB l m fm
  rs : fm.res = decide ((l.getD 0 zaS).kind = 2)
  r1 : (l.getD 0 zaS).kind = 2 → res = idL (l.getD 0 zaS).text bound ∧ res ≠ 0
  r0 : ¬ (l.getD 0 zaS).kind = 2 → res = 0
theorem LnC.pre (h : LnC bound l m fm res) : zem n l bound = (if fm.ty = true ∧ l.length = m + 1 then (zbg, false, (72, n))
  else if fm.ty = true ∧ (l.getD (m + 1) zaS).kind ≠ 2 then (zbg, false, (70, (l.getD (m + 1) zaS).at_))
  else if fm.ty = true ∧ idL (l.getD (m + 1) zaS).text bound = 0 then (zbg, false, (43, (l.getD (m + 1) zaS).at_))
  else if (zbo fm bound 0 (l.drop (m + 1 + b2n fm.ty))).2.1 ≠ 0 then (zbg, false, (zbo fm bound 0 (l.drop (m + 1 + b2n fm.ty))).2)
  else if (zdj fm.op ((zbo fm bound 0 (l.drop (m + 1 + b2n fm.ty))).1.map ArgP.kind)).2 = false then (zbg, false, (72, n))
  else if zbD fm (zbo fm bound 0 (l.drop (m + 1 + b2n fm.ty))).1 > 65535 then (zbg, false, (25, 0))
  else (⟨fm.op, if fm.ty = true then idL (l.getD (m + 1) zaS).text bound else 0, res, (zbo fm bound 0 (l.drop (m + 1 + b2n fm.ty))).1⟩, true, (0, 0))) := by
  rw [h.b.rest]
  have e : (if (l.getD 0 zaS).kind = 2 then idL (l.getD 0 zaS).text bound else 0) = res := by
    by_cases hk : (l.getD 0 zaS).kind = 2
    · rw [if_pos hk, (h.r1 hk).1]
    · rw [if_neg hk, h.r0 hk]
  unfold zfm
  rw [if_neg (fun q => q h.rs), if_neg (fun q => (h.r1 q.1).2 ((h.r1 q.1).1.trans q.2)), h.b.a.at, e]
structure LnI (bound : Int) (l : List TokL) (m : Nat) (fm : FormL) (res ty : Int) (q : Nat) : Prop where
  c : LnC bound l m fm res
  t1 : fm.ty = true → ty = idL (l.getD (m + 1) zaS).text bound ∧ ty ≠ 0 ∧ m + 1 < l.length ∧ (l.getD (m + 1) zaS).kind = 2
  t0 : fm.ty = false → ty = 0
  qe : q = m + 1 + b2n fm.ty
theorem LnI.le (h : LnI bound l m fm res ty q) : q ≤ l.length := by
  have h1 := h.c.b.lt
  have h2 := h.qe
  cases ht : fm.ty with
  | false => rw [ht] at h2; unfold b2n at h2; simp at h2; omega
  | true => have := h.t1 ht; rw [ht] at h2; unfold b2n at h2; simp at h2; omega
theorem LnI.rest (h : LnI bound l m fm res ty q) : zem n l bound = (if (zbo fm bound 0 (l.drop q)).2.1 ≠ 0 then (zbg, false, (zbo fm bound 0 (l.drop q)).2)
  else if (zdj fm.op ((zbo fm bound 0 (l.drop q)).1.map ArgP.kind)).2 = false then (zbg, false, (72, n))
  else if zbD fm (zbo fm bound 0 (l.drop q)).1 > 65535 then (zbg, false, (25, 0))
  else (⟨fm.op, ty, res, (zbo fm bound 0 (l.drop q)).1⟩, true, (0, 0))) := by
  rw [h.c.pre, ← h.qe]
  have e : (if fm.ty = true then idL (l.getD (m + 1) zaS).text bound else 0) = ty := by
    by_cases ht : fm.ty = true
    · rw [if_pos ht, (h.t1 ht).1]
    · rw [if_neg ht, h.t0 (by simpa using ht)]
  rw [if_neg (fun q => by have := (h.t1 q.1).2.2.1; omega), if_neg (fun q => q.2 (h.t1 q.1).2.2.2), if_neg (fun q => (h.t1 q.1).2.1 ((h.t1 q.1).1.trans q.2)), e]
theorem LnI.bad (h : LnI bound l m fm res ty q) (hA : ArI fm bound l q j ags) (hj : q + j < l.length) (he : (zd1 (zav fm j) (l.getD (q + j) zaS) bound).2 ≠ 0) : zem n l bound = (zbg, false, ((zd1 (zav fm j) (l.getD (q + j) zaS) bound).2, (l.getD (q + j) zaS).at_)) := by
  have hb := hA.bad hj he
  rw [h.rest, if_pos (by rw [hb]; exact he), hb]
theorem LnI.zero (h : LnI bound l m fm res ty q) (hA : ArI fm bound l q j ags) (hj : q + j < l.length) (hc : zav fm j = 0) : zem n l bound = (zbg, false, (70, (l.getD (q + j) zaS).at_)) := by
  have e : zd1 (zav fm j) (l.getD (q + j) zaS) bound = (zeroA, 70) := by rw [hc]; exact znO
  rw [h.bad hA hj (by rw [e]; decide), e]
theorem LnI.fit (h : LnI bound l m fm res ty q) (hA : ArI fm bound l q j ags) (hj : l.length ≤ q + j) (hf : (zdj fm.op (ags.map ArgP.kind)).2 = true) : zem n l bound = (if zbD fm ags > 65535 then (zbg, false, (25, 0)) else (⟨fm.op, ty, res, ags⟩, true, (0, 0))) ∧ za3 bound ⟨fm.op, ty, res, ags⟩ = if zbD fm ags > 65535 then 25 else 0 := by
  have hfin := hA.fin hj
  refine ⟨by rw [h.rest, hfin, if_neg (by simp), if_neg (by rw [hf]; simp)], ?_⟩
  have := zgP (fm := fm) (bound := bound) (said := fm.res) (ty := ty) (res := res) (l := l.drop q) h.c.b.op rfl (fun hr => by
      rw [h.c.rs] at hr
      have h1 := h.c.r1 (of_decide_eq_true hr)
      rw [h1.1]; exact ziB (by rw [← h1.1]; exact h1.2)) (fun hr => by
      rw [h.c.rs] at hr
      exact h.c.r0 (of_decide_eq_false hr)) (fun ht => by
      have h1 := h.t1 ht
      rw [h1.1]; exact ziB (by rw [← h1.1]; exact h1.2.1)) h.t0 (by rw [hfin]) (by rw [hfin]; exact hf)
  rw [hfin] at this
  exact this
end
end Go.SK
namespace Go.SK
open Go.RowKit
theorem zok (l : List TokL) : ∀ q, wsz (l.drop q) ≤ wsz l := fun q => by
  induction q with
  | zero => exact Nat.le_refl _
  | succ q ih =>
    rcases Nat.lt_or_ge q l.length with h | h
    · have := zg9 h; omega
    · rw [List.drop_eq_nil_of_le (by omega)]; exact Nat.zero_le _
section
variable {n bound : Int} {l : List TokL} {m : Nat} {fm : FormL} {res ty : Int} {q j : Nat} {ags : List ArgP}
theorem ArI.small {N : Nat} (h : ArI fm bound l q j ags) (hts : wsz l ≤ 7 * N) (hll : l.length ≤ N) (hN : N ≤ 16777216) : (ags.map zaD).sum ≤ 900000000 ∧ ∀ a ∈ ags, a.s.length ≤ 100000000000 := by
  have h1 := h.sum
  have h2 := h.le
  have h3 := zok l q
  refine ⟨by omega, fun a ha => ?_⟩
  have := h.tx a ha
  omega
theorem LnI.good (h : LnI bound l m fm res ty q) (hA : ArI fm bound l q j ags) (hj : l.length ≤ q + j) (hf : (zdj fm.op (ags.map ArgP.kind)).2 = true) {re : Int} (hre : re = za3 bound ⟨fm.op, ty, res, ags⟩) (h0 : re = 0) : zem n l bound = (⟨fm.op, ty, res, ags⟩, true, (0, 0)) := by
  have h1 := h.fit (n := n) hA hj hf
  rw [h1.2, h0] at hre
  by_cases hr : zbD fm ags > 65535
  · rw [if_pos hr] at hre; cases hre
  · rw [h1.1, if_neg hr]
end
end Go.SK
namespace Go.SK
open Go.RowKit
def InstL.Sm (i : InstL) : Prop := (i.args.map zaD).sum ≤ 900000000 ∧ (∀ a ∈ i.args, a.s.length ≤ 100000000000) ∧ (0 ≤ i.op ∧ i.op < 65536)
end Go.SK
namespace Go.SK
open Go.RowKit
structure PaM (t : Tx) (i : Nat) (gn bd : Int) (words : Nat) (dm : List InstP) : Prop where
  pi : PaI t i ⟨gn, bd, words, dm.map InstP.L⟩
  pg : PaG ⟨gn, bd, words, dm.map InstP.L⟩
  sm : ∀ x ∈ dm, x.L.Sm
section
variable {t : Tx} {i : Nat} {gn bd : Int} {words : Nat} {dm : List InstP}
theorem PaM.start : PaM t 0 0 0 0 [] := ⟨PaI.start, PaG.start, fun x h => by cases h⟩
theorem PaM.le (h : PaM t i gn bd words dm) : words ≤ 1048576 := h.pg.le
theorem PaM.len (h : PaM t i gn bd words dm) : dm.length ≤ words := by have := h.pi.small; rwa [List.length_map] at this
theorem PaM.to {gn' bd' : Int} {words' : Nat} {dm' : List InstP} (h : PaM t i gn bd words dm) (hi : i < (lnF t).length) (he : zkG ((lnF t).getD i []) ⟨gn, bd, words, dm.map InstP.L⟩ = .ok ⟨gn', bd', words', dm'.map InstP.L⟩) (hs : ∀ x ∈ dm', x.L.Sm) : PaM t (i + 1) gn' bd' words' dm' := ⟨h.pi.step hi he, h.pg.step he, hs⟩
theorem PaM.head (h : PaM t i gn bd words dm) (hi : i < (lnF t).length) (h0 : words = 0) (hn : ¬ ((zd8 ((lnF t).getD i [])).2.1 = 0 ∧ (zd8 ((lnF t).getD i [])).1.length = 0)) (he : ¬ (zdG ((lnF t).getD i [])).2.1 ≠ 0) : PaM t (i + 1) (zdG ((lnF t).getD i [])).1.1 (zdG ((lnF t).getD i [])).1.2 5 dm := by
  refine h.to hi ?_ h.sm
  have hd : dm.map InstP.L = [] := h.pg.none h0
  unfold zkG; dsimp only; rw [if_pos h0, if_neg hn, if_neg he, hd]
theorem PaM.skip (h : PaM t i gn bd words dm) (hi : i < (lnF t).length) (h0 : ¬ words = 0) (he : ¬ (zc5 ((lnF t).getD i []) bd).2.2.1 ≠ 0) (hs : (zc5 ((lnF t).getD i []) bd).2.1 = false) : PaM t (i + 1) gn bd words dm := by
  refine h.to hi ?_ h.sm
  unfold zkG; dsimp only; rw [if_neg h0, if_neg he, if_pos hs]
end
end Go.SK
namespace Go.SK
open Go.RowKit
structure PaR (t : Tx) (i : Nat) (hd : Bool) (gn bd : Int) (wd : Nat) (dm : List InstP) : Prop where
  m : PaM t i gn bd (if hd = true then wd else 0) dm
  w0 : hd = false → wd = 5
  w1 : hd = true → wd ≠ 0
section
variable {t : Tx} {i : Nat} {hd : Bool} {gn bd : Int} {wd : Nat} {dm : List InstP}
theorem PaR.off (h : PaR t i false gn bd wd dm) : PaM t i gn bd 0 dm := h.m
theorem PaR.on (h : PaR t i true gn bd wd dm) : PaM t i gn bd wd dm := h.m
theorem PaR.le (h : PaR t i hd gn bd wd dm) : wd ≤ 1048576 := by
  cases hd with
  | false => have := h.w0 rfl; omega
  | true => exact h.on.le
theorem PaR.len (h : PaR t i hd gn bd wd dm) : dm.length ≤ 1048576 := by
  have h1 := h.m.len
  have h2 := h.m.le
  omega
end
end Go.SK
namespace Go.SK
theorem endJ.en {t : Tx} {a ln : Int} {i en : Nat} (h : endJ t a i ln en) (hi : i ≤ t.length) : en ≤ t.length := by
  rcases h.2 with h2 | h2
  · omega
  · omega
theorem endJ.ln {t : Tx} {a ln : Int} {i en : Nat} (h : endJ t a i ln en) : 1 ≤ ln ∧ ln ≤ 1 + (t.length : Int) := by
  have h1 := h.1
  have h2 := zqv (t.take i)
  have h3 := List.length_take (i := i) (l := t)
  omega
end Go.SK
namespace Go.SK
theorem Wd.drop {l : List Int} (h : Wd l) (i : Nat) : Wd (l.drop i) := fun x hx => h x (List.mem_of_mem_drop hx)
end Go.SK
namespace Go.SK
theorem Small.len9 {l : List InstP} (h : Small l) : l.length ≤ 9000000000000000000 := by have := h.len; omega
theorem Small.la9 {l : List InstP} (h : Small l) : ∀ i ∈ l, i.args.length ≤ 9000000000000000000 := fun i hi => by have := h.args i hi; omega
theorem Small.lenC {l : List InstP} (h : Small l) : l.length ≤ 3518437208884 := by have := h.len; omega
theorem Small.laC {l : List InstP} (h : Small l) : ∀ i ∈ l, i.args.length ≤ 5864062014806 := fun i hi => by have := h.args i hi; omega
end Go.SK
namespace Go.SK
open Go.RowKit
section
variable {c : Int} {a : ArgP}
theorem argK1 (h : a.kind = 1) : zd2 c a = ⟨2, zcy a.n, 0⟩ := if_pos h
theorem argK2 (h1 : ¬ a.kind = 1) (h : a.kind = 2) : zd2 c a = ⟨3, zcy a.n, 0⟩ := by unfold zd2; rw [if_neg h1, if_pos h]
theorem argK3 (h1 : ¬ a.kind = 1) (h2 : ¬ a.kind = 2) (h : a.kind = 3) : zd2 c a = ⟨4, a.s, 0⟩ := by unfold zd2; rw [if_neg h1, if_neg h2, if_pos h]
theorem argK4 (h1 : ¬ a.kind = 1) (h2 : ¬ a.kind = 2) (h : ¬ a.kind = 3) : zd2 c a = ⟨1, ((namesL.find? (enN c a.n)).getD zc3).name, 0⟩ := by unfold zd2; rw [if_neg h1, if_neg h2, if_neg h]
end
section
variable {i : InstL} {fm : FormL}
theorem zou (h : zaO i.op = fm) (hr : fm.res = true) : zjq i = [idK i.res, ⟨5, [61], 0⟩] := by unfold zjq; rw [h, if_pos hr]
theorem zqh (h : zaO i.op = fm) (hr : fm.res = false) : zjq i = [] := by unfold zjq; rw [h, if_neg (by rw [hr]; decide)]
theorem zox (h : zaO i.op = fm) (ht : fm.ty = true) : zli i = (zjq i ++ [⟨1, fm.name, 0⟩]) ++ [idK i.ty] := by unfold zli; rw [h, if_pos ht]; simp
theorem zqi (h : zaO i.op = fm) (ht : fm.ty = false) : zli i = zjq i ++ [⟨1, fm.name, 0⟩] := by unfold zli; rw [h, if_neg (by rw [ht]; decide)]
def zmo (i : InstL) (fm : FormL) (k : Nat) : List TokL := zli i ++ zc0 fm 0 (i.args.take k)
theorem zcC : zmo i fm 0 = zli i := by unfold zmo; simp [zc0]
theorem zmK {k : Nat} (h : k < i.args.length) : zmo i fm (k + 1) = zmo i fm k ++ [zd2 (zav fm (k : Int)) (i.args.getD k zeroA)] := by
  unfold zmo
  rw [zg1 fm i.args 0 k h, Nat.zero_add, List.append_assoc]
theorem zoz (h : zaO i.op = fm) {k : Nat} (hk : k = i.args.length) : zmo i fm k = zeL i := by
  subst hk; subst h
  unfold zmo
  rw [zgE, List.take_length]
end
theorem zqy {l : List InstP} {i : Nat} (h : i < l.length) : (l.map InstP.L)[i]? = some (l.getD i zeroI).L := by
  rw [List.getElem?_map, List.getElem?_eq_getElem h]; simp [List.getD, h]
end Go.SK
namespace Go.SK
open Go.RowKit
theorem zoy {i : InstL} {fm : FormL} {k : Nat} (hu : i.U32) : (zmo i fm k).length ≤ 4 + i.args.length := by
  have h1 := (zkv hu).2
  unfold zmo
  rw [List.length_append, zgc, List.length_take]
  omega
theorem row_rs {b T n es : Nat} {xs : List Value} {w : World} (h : (Res.row b T xs).holds w) (hn : xs.length = n * es) : (Res.rs (some ⟨b, 0, none⟩) n es xs).holds w :=
  ⟨hn, .inr ⟨b, 0, rfl, zag (n := xs.length) h _ (by rw [List.drop_zero, List.take_length])⟩⟩
theorem zoC {gn bd : Int} {l : List InstL} {i : Nat} : zdb gn bd l i ≠ [] := by unfold zdb; simp
theorem zll {gn bd : Int} {l : List InstP} {i : Nat} (hi : i < l.length) (hs : (za7 bd (l.map InstP.L)).1 = 0) (hb0 : 0 ≤ bd) (hu : ∀ x ∈ l, x.L.U32) : zdb gn bd (l.map InstP.L) i ++ wrS (zeL (l.getD i zeroI).L) ++ [10] = zdb gn bd (l.map InstP.L) (i + 1) ∧ wrE (zeL (l.getD i zeroI).L) = 0 ∧ ziv bd (l.getD i zeroI).L = (wrS (zeL (l.getD i zeroI).L), 0) := by
  have hm : l.getD i zeroI ∈ l := zbG hi
  have hf := (zlp hb0 hs).2 _ (List.mem_map_of_mem hm)
  have h2 := zlg hf (hu _ hm)
  refine ⟨?_, h2⟩
  rw [zlk (zqy hi), h2.2, List.append_assoc]
theorem zlm {gn bd : Int} {l : List InstP} (hs : (za7 bd (l.map InstP.L)).1 = 0) (hg : 0 ≤ gn ∧ gn < 4294967296) (hb0 : 0 ≤ bd) (hu : ∀ x ∈ l, x.L.U32) (i : Nat) : (zdb gn bd (l.map InstP.L) i).length ≤ 16777216 :=
  zmN hs hg (fun y hy => by obtain ⟨x, hx, rfl⟩ := List.mem_map.1 hy; exact hu x hx) hb0 i
theorem mapU {l : List InstP} (hu : ∀ x ∈ l, x.L.U32) : ∀ y ∈ l.map InstP.L, y.U32 := fun y hy => by obtain ⟨x, hx, rfl⟩ := List.mem_map.1 hy; exact hu x hx
end Go.SK
namespace Go.SK
open Go.RowKit
theorem zmF {m : List InstP} {l : List InstL} (h : m.map InstP.L = l) (hu : ∀ y ∈ l, y.U32) : ∀ x ∈ m, x.L.U32 := fun x hx => hu _ (h ▸ List.mem_map_of_mem hx)
theorem zoY : ∀ y ∈ oneL, y.U32 := fun y hy => by
  cases hy with
  | head => exact ⟨by decide, by decide, by decide⟩
  | tail _ h => cases h
end Go.SK
namespace Go.SK
open Go.RowKit
theorem zjt {ga ba gb bb : Int} {l m : List InstP} {x y : Tx} (h1 : zce ga ba (l.map InstP.L) = (x, (0, 0))) (h2 : zce gb bb (m.map InstP.L) = (y, (0, 0))) (s1 : (za7 ba (l.map InstP.L)).1 = 0) (s2 : (za7 bb (m.map InstP.L)).1 = 0)
    (hg1 : 0 ≤ ga ∧ ga < 4294967296) (hg2 : 0 ≤ gb ∧ gb < 4294967296) (hb1 : 0 ≤ ba) (hb2 : 0 ≤ bb) (hu1 : ∀ z ∈ l, z.L.U32) (hu2 : ∀ z ∈ m, z.L.U32) : decide (x = y) = zqm ga ba l gb bb m := by
  unfold zqm
  rw [decide_eq_decide]
  constructor
  · intro e
    exact zoA s1 s2 hg1 hg2 hb1 hb2 (mapU hu1) (mapU hu2) (by rw [h1, h2]; exact e)
  · rintro ⟨rfl, rfl, e⟩
    rw [e, h2] at h1
    injection h1 with h3 _
    exact h3.symm
end Go.SK
namespace Go.SK
open Go Go.Proofs
theorem ty3 : TyF Tryd.prog 3 (.int .i64) 1 8 [.int .i64 0] := zaZ Kr Kr
theorem ent76 : zaB Tryd.prog 76 := ⟨Tryd.f76, _, Tryd.func76, Kr, rfl⟩
theorem zqe : TyF Tryd.prog 149 (.array 24 5) 24 24 [.int .u8 0, .int .u8 0, .int .u8 0, .int .u8 0, .int .u8 0, .int .u8 0, .int .u8 0, .int .u8 0, .int .u8 0, .int .u8 0, .int .u8 0, .int .u8 0, .int .u8 0, .int .u8 0, .int .u8 0, .int .u8 0, .int .u8 0, .int .u8 0, .int .u8 0, .int .u8 0, .int .u8 0, .int .u8 0, .int .u8 0, .int .u8 0] := zaZ Kr Kr
theorem ent77 : zaB Tryd.prog 77 := ⟨Tryd.f77, _, Tryd.func77, Kr, rfl⟩
theorem ent78 : zaB Tryd.prog 78 := ⟨Tryd.f78, _, Tryd.func78, Kr, rfl⟩
theorem zcU : TyF Tryd.prog 56 (.slice 5) 1 24 [.slice none 0 0] := zaZ Kr Kr
theorem ent57 : zaB Tryd.prog 57 := ⟨Tryd.f57, _, Tryd.func57, Kr, rfl⟩
end Go.SK
namespace Go.SK
open Go Go.Proofs
open Go.RowKit
theorem lx_FB (b u k : Nat) (xs : List Value) (hx : xs = List.replicate 24 (Value.int .u8 0)) (w : World) (hR : (Res.row b 149 xs).holds w) (hk : k = Lib.nDigits u) (hu : u < 4294967296) : Ret Tryd.prog 78 #[.slice (some ⟨b, 0, none⟩) k 24, .int .u64 (u : Int)] w (fun v w' => ∃ ys, (ys.drop 0).take k = (Lib.decDigits u).flatMap byC ∧ v = .tuple #[] ∧ St w (Res.row b 149 xs).foot [Res.row b 149 ys] [] w') := by
 have h10 : Lib.nDigits u ≤ 10 := zdx (u := u) (k := 9) Om
 have hsz : (Array.replicate k (0 : UInt8)).size = k := by simp
 have hpow := Lib.lt_pow_nDigits u
 have hc := Any.internal_strconv_formatBase10 zlG b 0 24 u (Array.replicate k (0 : UInt8)) w (fun j hj => ?_) (by rw [hsz, hk]; exact hpow) (by omega) (by rw [hsz]; omega)
 ·rw [hsz] at hc
  refine Calls.mono hc ?_
  rintro e w' ⟨he, n, v', dk, rfl, hf⟩
  obtain ⟨hkp, hnew⟩ := zjD (fun (b : UInt8) => Value.int .u8 (b.toNat : Int)) w b 0 dk n hR
  refine ⟨_, he, _, ?_, rfl, (St.enter1 hR (fun d hd => by cases hd) (fun d hd => by cases hd)).upd .here hkp (r' := Res.row b 149 (Sort.putCells (fun (b : UInt8) => Value.int .u8 (b.toNat : Int)) 0 dk xs.toArray).toList) ?_ (fun c hc => .inl hc)⟩
  ·rw [List.drop_zero]; exact zqE hf hk xs (by rw [hx, List.length_replicate]; omega)
  ·show _ = some _
   rw [hnew]
 ·rw [hsz] at hj
  have hR' : w.heap[b]? = some (.cells xs.toArray 149 (0, 0)) := hR
  refine ⟨?_, by simp [World.frozen?, hR']⟩
  have hx2 : xs[j]? = some (.int .u8 0) := by rw [hx, List.getElem?_replicate, if_pos (by omega)]
  simp [World.cell?, hR', hx2, hj]
theorem zpB (u : Nat) (hu : u < 4294967296) (w : World) (hG : LxG.holds w) : Ret Tryd.prog 57 #[.int .u64 (u : Int), .int .i64 10] w (fun v w' => v = str (Lib.decDigits u) ∧ St w NoM [] [] w') := by
 refine zaq (args := [.int .u64 (u : Int), .int .i64 10]) Tryd.func57 rfl rfl rfl ?_
 have hst : St w NoM [] [LxG] w := St.init_Ds (by simp only [List.forall_mem_cons]; exact ⟨hG, fun _ h => absurd h List.not_mem_nil⟩)
 have h10 : Lib.nDigits u ≤ 10 := zdx (u := u) (k := 9) Om
 have hpos := Lib.nDigits_pos u
 refine SR <| AS rfl <| NL <| SQ <| SR <| MI rfl <| CN <| zai rfl rfl <| NL <| zaa rfl (fun g1 => ?_) (fun g1 => ?_)
 ·refine SQ <| SR <| CN <| zad (v := .int .u64 _) rfl <| CN <| zaR rfl rfl <| NL <| zaa rfl (fun g2 => ?_) (fun g2 => ?_)
  ·refine SR <| CN (zad (v := .int .u64 _) rfl ?_)
   first | refine CN (zaH zc8 ty3 rfl zck ?_) | refine CN (zaP zc8 ty3 rfl ?_)
   refine CN <| zao (v1 := .int .i64 _) ent76 rfl rfl <| Ret.det (zo2 u Om _) hst fun w hst => AS rfl <| NL <| zac Tryd.func57 rfl (TP (v := str _) rfl) ?_
   exact ⟨rfl, hst.pure⟩
  refine zah <| SR <| CN <| zaz hst zqe fun w b5 hst => NSR <| CN <| zad (v := .int .u64 _) rfl <| CN <| zao (v1 := .int .u64 _) ent77 rfl rfl <| Ret.det (zis u _ (hst.hD _ Q0) Om Om) hst fun w hst => AI rfl <| NSR <| MI rfl <| CN (zdK (hi := Lib.nDigits u) zqe ty5 rfl rfl rfl Om ?_)
  refine CN <| zad (v := .int .u64 _) rfl <| CN (zaF (v1 := .slice _ _ _) (v2 := .int .u64 _) ent78 rfl rfl rfl ((lx_FB b5 u _ _ rfl _ (hst.hL _ Q0) rfl Om).mono fun v w hp => ?_))
  obtain ⟨ys, hys, rfl, hp⟩ := hp
  replace hst := hst.call1 hp
  clear hp
  replace hst : St _ _ [Res.row b5 149 ys] _ _ := hst
  refine NSR <| MI rfl <| CN <| zdK (hi := Lib.nDigits u) zqe ty5 rfl rfl rfl (by omega) <| CN <| zeD (l := Lib.decDigits u) zcU ty5 ty9 rfl (zhF u).symm ⟨by rw [zb4 (es := 1) (fun _ => rfl), zhF, Nat.mul_one], .inr ⟨b5, 0, rfl, zag (n := Lib.nDigits u) (hst.objL Q0) _ hys⟩⟩ rfl <| AS rfl <| NL <| zac Tryd.func57 rfl (TP (v := str _) rfl) ?_
  exact ⟨rfl, hst.pure⟩
 exfalso
 exact g1 rfl
theorem zkf (u : Nat) (hu : u < 4294967296) (w : World) (hG : LxG.holds w) : Ret Tryd.prog 39 #[.int .u64 (u : Int), .int .i64 10] w (fun v w' => v = str (Lib.decDigits u) ∧ St w NoM [] [] w') := by
 refine zaq (args := [.int .u64 (u : Int), .int .i64 10]) Tryd.func39 rfl rfl rfl ?_
 have hst : St w NoM [] [LxG] w := St.init_Ds (by simp only [List.forall_mem_cons]; exact ⟨hG, fun _ h => absurd h List.not_mem_nil⟩)
 refine SR <| AS rfl <| NSR <| CN <| zad (v := .int .u64 _) rfl <| MI rfl <| CN <| zaF (v1 := .int .u64 _) (v2 := .int .i64 _) ent57 rfl rfl rfl <| Ret.det (zpB u hu _ (hst.hD _ Q0)) hst fun w hst => AS rfl <| NL <| zac Tryd.func39 rfl (TP (v := str _) rfl) ?_
 exact ⟨rfl, hst.pure⟩
end Go.SK
namespace Go.SK
open Go Go.Proofs
theorem zeK : TyF Tryd.prog 181 (.int .i64) 1 8 [.int .i64 0] := zaZ Kr Kr
theorem ty169 : TyF Tryd.prog 169 (.int .u64) 1 8 [.int .u64 0] := zaZ Kr Kr
theorem zc1 : zaB Tryd.prog 108 := ⟨Tryd.f108, _, Tryd.func108, Kr, rfl⟩
end Go.SK
namespace Go.SK
open Go Go.Proofs
open Go.RowKit
theorem zl5 (s : Tx) (hl : s.length ≤ 8) (w : World) : Ret Tryd.prog 87 #[str s, .int .i64 16, .int .i64 32] w (fun v w' => ((∃ n, s.length ≠ 0 ∧ zbO s 0 = some n ∧ v = .tuple #[.int .u64 (n : Int), .nilIface]) ∨ ((s.length = 0 ∨ zbO s 0 = none) ∧ v = .tuple #[.int .u64 0, .iface 181 (.int .i64 2)])) ∧ St w NoM [] [] w') := by
 refine zaq (args := [str s, .int .i64 16, .int .i64 32]) Tryd.func87 rfl rfl rfl ?_
 have hst := St.init w
 refine SR <| CN <| zaf (v := .int .u64 _) rfl <| CN <| zaf (v := .nilIface) rfl <| NL <| SQ <| SR <| MS rfl <| CN <| zb7 rfl rfl <| NL <| zaa rfl (fun g1 => ?_) (fun g1 => ?_)
 ·refine SR <| CN <| za0 (v := .int .i64 _) zeK rfl rfl <| CN <| zaf (v := .int .u64 _) rfl <| CN <| zaf (v := .iface _ _) rfl <| NL <| zat Tryd.func87 rfl (TP (v := .int .u64 _) rfl) (TP (v := .iface _ _) rfl) ?_
  subst g1
  exact ⟨.inr ⟨.inl rfl, rfl⟩, hst.pure⟩
 refine zah <| SR <| MI rfl <| CN <| zai rfl rfl <| AB rfl <| NSR <| MS rfl <| AS rfl <| NL <| SQ <| zan <| SQ ?_
 refine RG <| MI rfl <| CN <| zba rfl rfl <| MB rfl <| zap (d := 28) rfl (fun g2 => ?_) (fun g2 => ?_)
 ·refine TK (t := 28) rfl (Vb (Dt g2)) <| zad (v := .int .i64 _) rfl <| TK (t := 28) rfl (Vb (Dt g2)) <| zba rfl rfl <| CN <| zar (u := .bool _) (Vb (Dt g2)) rfl <| AB rfl <| NL <| zaa rfl (fun g3 => ?_) (fun g3 => ?_)
  ·refine zah <| zaj <| SQ <| SR <| MI rfl <| CN <| zai rfl rfl <| NL <| zaa rfl (fun g4 => ?_) (fun g4 => ?_)
   ·exfalso
    omega
   refine SR <| MI rfl <| CN <| zaR rfl rfl <| MB rfl <| zap (d := 80) rfl (fun g5 => ?_) (fun g5 => ?_)
   ·exfalso
    omega
   refine TK (t := 80) rfl (Vb (Df g5)) <| zad (v := .int .i64 _) rfl <| TK (t := 80) rfl (Vb (Df g5)) <| zb1 rfl rfl <| CN <| zam (u := .bool _) (Vb (Df g5)) rfl <| NL <| zak [(0, str _), (1, .int .i64 _), (2, .int .i64 _), (8, .bool _), (9, str _), (83, .bool _)] E6 fun f => zaa rfl (fun g6 => ?_) (fun g6 => ?_)
   ·exfalso
    omega
   refine zah <| SR <| CN <| zaf (v := .int .u64 _) rfl <| NL <| SQ <| SR <| MI rfl <| NL <| zan <| SR <| CN <| zai rfl rfl <| AB rfl ?_
   refine NL <| zaa rfl (fun g7 => ?_) (fun g7 => ?_)
   ·exfalso
    omega
   refine SR <| CN <| zai rfl rfl <| AB rfl <| NL <| zaa rfl (fun g8 => ?_) (fun g8 => ?_)
   ·refine RG <| CN <| zaf (v := .int .u64 _) rfl <| NL <| zaj <| SR <| MI rfl ?_
    first | refine CN (zaH ty3 ty169 rfl zeF ?_) | refine CN (zaP ty3 ty169 rfl ?_)
    refine CN <| zk7 (c := 4294967296) rfl rfl Om De De <| CN <| zbA rfl rfl rfl zeF <| CN <| zaf (v := .int .u64 _) rfl <| NSR <| AB rfl <| NSR <| CN <| zaf (v := .int .u64 _) rfl <| NL <| SQ <| SQ <| RG ?_
    refine MS rfl <| CN <| zjc hst ty9 zcU ty5 rfl fun w by_ cpb hst => CN <| zaK (rest := []) zcU rfl <| MI rfl <| NL <| zan <| zaY <| za4 [(1, .int .i64 _), (8, .bool _), (9, str _), (10, .int .u64 _), (11, .int .u64 _), (99, .slice _ _ _), (100, .int .i64 _)] E7 (fun (qq : Nat × Nat) => [(12, .bool false), (13, .int .u64 (qq.2 : Int)), (101, .int .i64 (qq.1 : Int))]) (fun (qq : Nat × Nat) => []) (fun (qq : Nat × Nat) => qq.1 ≤ s.length ∧ qq.2 < 16 ^ qq.1 ∧ zbO s 0 = zbO (s.drop qq.1) qq.2) (fun (qq : Nat × Nat) => s.length - qq.1) ((0, 0)) hst ⟨Nat.zero_le _, by decide, rfl⟩ E3 ?_
    intro ⟨i, n⟩ f w hst hJ ih9
    replace hst : St _ _ ([] ++ [_]) _ _ := hst
    replace hJ : i ≤ s.length ∧ n < 16 ^ i ∧ zbO s 0 = zbO (s.drop i) n := hJ
    refine zbp (sl := [(12, .bool false), (13, .int .u64 (n : Int)), (101, .int .i64 (i : Int))]) E3 ?_
    have hidx : (s.getD ((i : Int).toNat) 0).toNat = (s.getD i 0).toNat := rfl
    have hidl : bits .or .u8 ((s.getD ((i : Int).toNat) 0).toNat : Int) 32 = bits .or .u8 ((s.getD i 0).toNat : Int) 32 := rfl
    have hlow := zqB _ (s.getD i 0).toNat_lt
    refine SR <| CN <| zaR rfl rfl <| NL <| SQ <| zaa rfl (fun g10 => ?_) (fun g10 => ?_)
    ·have hp16 := zoR (i := i) Om
     refine zah <| SQ <| zan <| SR <| CN <| zaV zcU ty5 (hst.hL _ Q0) rfl rfl Om Om <| CN <| zae (v := .int .u8 _) ty5 rfl rfl (Res.rs2_cell (hst.hL _ Q0) (ze0 (g := byC) (d := 0) zqT rfl Om)) <| AC rfl <| NSR <| AC rfl <| NL <| SQ <| zan ?_
     refine SR <| MC rfl <| CN <| zai rfl rfl <| MB rfl <| zap (d := 109) rfl (fun g11 => ?_) (fun g11 => ?_)
     ·refine TK (t := 109) rfl (Vb (Dt g11)) <| zad (v := .bool _) rfl <| CN <| zar (u := .bool _) (Vb (Dt g11)) rfl <| AB rfl <| NL <| zaa rfl (fun g12 => ?_) (fun g12 => ?_)
      ·exfalso
       omega
      refine SR <| MC rfl <| CN <| zba rfl rfl <| MB rfl <| zap (d := 115) rfl (fun g13 => ?_) (fun g13 => ?_)
      ·refine TK (t := 115) rfl (Vb (Dt g13)) <| zad (v := .int .u8 _) rfl <| TK (t := 115) rfl (Vb (Dt g13)) <| zba rfl rfl <| CN <| zar (u := .bool _) (Vb (Dt g13)) rfl <| AB rfl <| NL <| zaa rfl (fun g14 => ?_) (fun g14 => ?_)
       ·refine RG <| MC rfl <| CN <| zbA rfl rfl rfl Wu8 <| AC rfl <| NL <| zaj <| zak [(1, .int .i64 _), (8, .bool _), (9, str _), (10, .int .u64 _), (11, .int .u64 _), (12, .bool _), (13, .int .u64 _), (16, .int .u8 _), (99, .slice _ _ _), (100, .int .i64 _), (101, .int .i64 _)] E11 fun f => SQ <| SR <| MC rfl <| MI rfl ?_
        first | refine CN (zaH ty3 ty5 rfl Wu8 ?_) | refine CN (zaP ty3 ty5 rfl ?_)
        refine CN <| za1 rfl rfl <| NL <| zaa rfl (fun g15 => ?_) (fun g15 => ?_)
        ·exfalso
         omega
        have hyd : zdQ (s.getD i 0) = true := Dt Om
        have hwd : (zdH (s.getD i 0) : Int) = ((s.getD i 0).toNat : Int) - 48 := by have hq := of_decide_eq_true hyd; unfold zdH; split <;> (try split) <;> omega
        refine zah <| SQ <| SR <| CN <| zad (v := .int .u64 _) rfl <| CN <| zad (v := .int .u64 _) rfl <| CN <| za1 rfl rfl <| NL <| zaa rfl (fun g16 => ?_) (fun g16 => ?_)
        ·exfalso
         omega
        refine zah <| SR <| CN <| zad (v := .int .u64 _) rfl <| MI rfl ?_
        first | refine CN (zaH ty3 zc8 rfl zeF ?_) | refine CN (zaP ty3 zc8 rfl ?_)
        refine CN <| zb6 rfl rfl rfl zeF <| CN <| zaf (v := .int .u64 _) rfl <| NSR <| CN <| zad (v := .int .u64 _) rfl <| MC rfl ?_
        first | refine CN (zaH ty5 zc8 rfl zeF ?_) | refine CN (zaP ty5 zc8 rfl ?_)
        refine CN <| zaC rfl rfl rfl zeF <| CN <| zaf (v := .int .u64 _) rfl <| NL <| SQ <| SR <| CN <| zad (v := .int .u64 _) rfl <| CN <| zad (v := .int .u64 _) rfl <| CN <| zaR rfl rfl <| MB rfl <| zap (d := 155) rfl (fun g17 => ?_) (fun g17 => ?_)
        ·exfalso
         omega
        refine TK (t := 155) rfl (Vb (Df g17)) <| zad (v := .int .u64 _) rfl <| TK (t := 155) rfl (Vb (Df g17)) <| zad (v := .int .u64 _) rfl <| TK (t := 155) rfl (Vb (Df g17)) <| zb1 rfl rfl <| CN <| zam (u := .bool _) (Vb (Df g17)) rfl <| NL <| zak [(1, .int .i64 _), (8, .bool _), (9, str _), (10, .int .u64 _), (11, .int .u64 _), (12, .bool _), (17, .int .u64 _), (99, .slice _ _ _), (100, .int .i64 _), (101, .int .i64 _), (159, .bool _)] E11 fun f => zaa rfl (fun g18 => ?_) (fun g18 => ?_)
        ·exfalso
         omega
        refine zah <| RG <| CN <| zad (v := .int .u64 _) rfl <| CN <| zaf (v := .int .u64 _) rfl <| NL <| zaj <| RG <| CN <| zaC rfl rfl rfl zck <| MI rfl <| NL <| zax ?_
        exact ih9 ((i + 1, 16 * n + zdH (s.getD i 0))) _ w (by (try dsimp only); omega) hst (⟨by (try dsimp only); omega, by (try dsimp only); exact zbM hJ.2.1 (zff hyd).2, by (try dsimp only); rw [hJ.2.2, zcL (by omega) hyd]⟩) E7 ⟨rfl, (congrArg (Value.int .u64) (by (try dsimp only); omega)), (Vi (by (try dsimp only); omega)), trivial⟩
       refine SR <| MC rfl <| CN <| zao (v1 := .int .u8 _) zc1 rfl rfl <| Ret.det (zbz _ _) hst fun w hst => CN <| zba rfl rfl <| MB rfl <| zap (d := 125) rfl (fun g19 => ?_) (fun g19 => ?_)
       ·refine TK (t := 125) rfl (Vb (Dt g19)) <| zad (v := .int .u8 _) rfl <| TK (t := 125) rfl (Vb (Dt g19)) (zao (v1 := .int .u8 _) zc1 rfl rfl ((zbz _ _).mono fun v w hp => ?_))
        obtain ⟨rfl, hp⟩ := hp
        replace hst := hst.keepc hp
        clear hp
        refine TK (t := 125) rfl (Vb (Dt g19)) <| zba rfl rfl <| CN <| zar (u := .bool _) (Vb (Dt g19)) rfl <| AB rfl <| NL <| zak [(1, .int .i64 _), (8, .bool _), (9, str _), (10, .int .u64 _), (11, .int .u64 _), (12, .bool _), (13, .int .u64 _), (15, .int .u8 _), (99, .slice _ _ _), (100, .int .i64 _), (101, .int .i64 _), (121, .bool _)] E12 fun f => zaa rfl (fun g20 => ?_) (fun g20 => ?_)
        ·refine RG <| MC rfl <| CN <| zao (v1 := .int .u8 _) zc1 rfl rfl <| Ret.det (zbz _ _) hst fun w hst => CN <| zbA rfl rfl rfl Wu8 <| CN <| zaC rfl rfl rfl Wu8 <| AC rfl <| NL <| zaj <| SQ <| SR <| MC rfl <| MI rfl ?_
         first | refine CN (zaH ty3 ty5 rfl Wu8 ?_) | refine CN (zaP ty3 ty5 rfl ?_)
         refine CN <| za1 rfl rfl <| NL <| zaa rfl (fun g21 => ?_) (fun g21 => ?_)
         ·refine SR <| CN <| za0 (v := .int .i64 _) zeK rfl rfl <| CN <| zaf (v := .int .u64 _) rfl <| CN <| zaf (v := .iface _ _) rfl <| NL <| zat Tryd.func87 rfl (TP (v := .int .u64 _) rfl) (TP (v := .iface _ _) rfl) ?_
          have hno : ¬ zdQ (s.getD i 0) = true := fun hn => by have hn2 := of_decide_eq_true hn; omega
          exact ⟨.inr ⟨.inr (hJ.2.2.trans (zbn Om hno)), rfl⟩, hst.pure⟩
         have hyd : zdQ (s.getD i 0) = true := Classical.byContradiction fun hn => by have hn2 := of_decide_eq_false (Bool.not_eq_true _ ▸ hn); omega
         have hwd : (zdH (s.getD i 0) : Int) = bits .or .u8 ((s.getD i 0).toNat : Int) 32 - 87 := by have hq := of_decide_eq_true hyd; unfold zdH; split <;> (try split) <;> omega
         refine zah <| SQ <| SR <| CN <| zad (v := .int .u64 _) rfl <| CN <| zad (v := .int .u64 _) rfl <| CN <| za1 rfl rfl <| NL <| zaa rfl (fun g22 => ?_) (fun g22 => ?_)
         ·exfalso
          omega
         refine zah <| SR <| CN <| zad (v := .int .u64 _) rfl <| MI rfl ?_
         first | refine CN (zaH ty3 zc8 rfl zeF ?_) | refine CN (zaP ty3 zc8 rfl ?_)
         refine CN <| zb6 rfl rfl rfl zeF <| CN <| zaf (v := .int .u64 _) rfl <| NSR <| CN <| zad (v := .int .u64 _) rfl <| MC rfl ?_
         first | refine CN (zaH ty5 zc8 rfl zeF ?_) | refine CN (zaP ty5 zc8 rfl ?_)
         refine CN <| zaC rfl rfl rfl zeF <| CN <| zaf (v := .int .u64 _) rfl <| NL <| zak [(1, .int .i64 _), (8, .bool _), (9, str _), (10, .int .u64 _), (11, .int .u64 _), (12, .bool _), (13, .int .u64 _), (17, .int .u64 _), (99, .slice _ _ _), (100, .int .i64 _), (101, .int .i64 _)] E11 fun f => SQ <| SR <| CN <| zad (v := .int .u64 _) rfl <| CN <| zad (v := .int .u64 _) rfl <| CN <| zaR rfl rfl <| MB rfl <| zap (d := 155) rfl (fun g23 => ?_) (fun g23 => ?_)
         ·exfalso
          omega
         refine TK (t := 155) rfl (Vb (Df g23)) <| zad (v := .int .u64 _) rfl <| TK (t := 155) rfl (Vb (Df g23)) <| zad (v := .int .u64 _) rfl <| TK (t := 155) rfl (Vb (Df g23)) <| zb1 rfl rfl <| CN <| zam (u := .bool _) (Vb (Df g23)) rfl <| NL <| zaa rfl (fun g24 => ?_) (fun g24 => ?_)
         ·exfalso
          omega
         refine zah <| RG <| CN <| zad (v := .int .u64 _) rfl <| CN <| zaf (v := .int .u64 _) rfl <| NL <| zaj <| RG <| CN <| zaC rfl rfl rfl zck <| MI rfl <| NL <| zax ?_
         exact ih9 ((i + 1, 16 * n + zdH (s.getD i 0))) _ w (by (try dsimp only); omega) hst (⟨by (try dsimp only); omega, by (try dsimp only); exact zbM hJ.2.1 (zff hyd).2, by (try dsimp only); rw [hJ.2.2, zcL (by omega) hyd]⟩) E7 ⟨rfl, (congrArg (Value.int .u64) (by (try dsimp only); omega)), (Vi (by (try dsimp only); omega)), trivial⟩
        refine SR <| CN <| za0 (v := .int .i64 _) zeK rfl rfl <| CN <| zaf (v := .int .u64 _) rfl <| CN <| zaf (v := .iface _ _) rfl <| NL <| zat Tryd.func87 rfl (TP (v := .int .u64 _) rfl) (TP (v := .iface _ _) rfl) ?_
        have hno : ¬ zdQ (s.getD i 0) = true := fun hn => by have hn2 := of_decide_eq_true hn; omega
        exact ⟨.inr ⟨.inr (hJ.2.2.trans (zbn Om hno)), rfl⟩, hst.pure⟩
       refine OM (t := 125) rfl (Vb (Df g19)) rfl <| OM (t := 125) rfl (Vb (Df g19)) rfl <| OM (t := 125) rfl (Vb (Df g19)) rfl <| CN <| zam (u := .bool _) (Vb (Df g19)) rfl <| AB rfl <| NL <| zak [(1, .int .i64 _), (8, .bool _), (9, str _), (10, .int .u64 _), (11, .int .u64 _), (12, .bool _), (13, .int .u64 _), (15, .int .u8 _), (99, .slice _ _ _), (100, .int .i64 _), (101, .int .i64 _), (121, .bool _)] E12 fun f => zal (Vb (rfl : false = _)) <| SR <| CN <| za0 (v := .int .i64 _) zeK rfl rfl <| CN <| zaf (v := .int .u64 _) rfl <| CN <| zaf (v := .iface _ _) rfl <| NL <| zat Tryd.func87 rfl (TP (v := .int .u64 _) rfl) (TP (v := .iface _ _) rfl) ?_
       have hno : ¬ zdQ (s.getD i 0) = true := fun hn => by have hn2 := of_decide_eq_true hn; omega
       exact ⟨.inr ⟨.inr (hJ.2.2.trans (zbn Om hno)), rfl⟩, hst.pure⟩
      refine OM (t := 115) rfl (Vb (Df g13)) rfl <| OM (t := 115) rfl (Vb (Df g13)) rfl <| CN <| zam (u := .bool _) (Vb (Df g13)) rfl <| AB rfl <| NL <| zal (Vb (rfl : false = _)) <| SR <| MC rfl <| CN <| zao (v1 := .int .u8 _) zc1 rfl rfl <| Ret.det (zbz _ _) hst fun w hst => CN <| zba rfl rfl <| MB rfl <| zap (d := 125) rfl (fun g25 => ?_) (fun g25 => ?_)
      ·refine TK (t := 125) rfl (Vb (Dt g25)) <| zad (v := .int .u8 _) rfl <| TK (t := 125) rfl (Vb (Dt g25)) (zao (v1 := .int .u8 _) zc1 rfl rfl ((zbz _ _).mono fun v w hp => ?_))
       obtain ⟨rfl, hp⟩ := hp
       replace hst := hst.keepc hp
       clear hp
       refine TK (t := 125) rfl (Vb (Dt g25)) <| zba rfl rfl <| CN <| zar (u := .bool _) (Vb (Dt g25)) rfl <| AB rfl <| NL <| zak [(1, .int .i64 _), (8, .bool _), (9, str _), (10, .int .u64 _), (11, .int .u64 _), (12, .bool _), (13, .int .u64 _), (15, .int .u8 _), (99, .slice _ _ _), (100, .int .i64 _), (101, .int .i64 _), (121, .bool _)] E12 fun f => zaa rfl (fun g26 => ?_) (fun g26 => ?_)
       ·refine RG <| MC rfl <| CN <| zao (v1 := .int .u8 _) zc1 rfl rfl <| Ret.det (zbz _ _) hst fun w hst => CN <| zbA rfl rfl rfl Wu8 <| CN <| zaC rfl rfl rfl Wu8 <| AC rfl <| NL <| zaj <| SQ <| SR <| MC rfl <| MI rfl ?_
        first | refine CN (zaH ty3 ty5 rfl Wu8 ?_) | refine CN (zaP ty3 ty5 rfl ?_)
        refine CN <| za1 rfl rfl <| NL <| zaa rfl (fun g27 => ?_) (fun g27 => ?_)
        ·refine SR <| CN <| za0 (v := .int .i64 _) zeK rfl rfl <| CN <| zaf (v := .int .u64 _) rfl <| CN <| zaf (v := .iface _ _) rfl <| NL <| zat Tryd.func87 rfl (TP (v := .int .u64 _) rfl) (TP (v := .iface _ _) rfl) ?_
         have hno : ¬ zdQ (s.getD i 0) = true := fun hn => by have hn2 := of_decide_eq_true hn; omega
         exact ⟨.inr ⟨.inr (hJ.2.2.trans (zbn Om hno)), rfl⟩, hst.pure⟩
        have hyd : zdQ (s.getD i 0) = true := Classical.byContradiction fun hn => by have hn2 := of_decide_eq_false (Bool.not_eq_true _ ▸ hn); omega
        have hwd : (zdH (s.getD i 0) : Int) = bits .or .u8 ((s.getD i 0).toNat : Int) 32 - 87 := by have hq := of_decide_eq_true hyd; unfold zdH; split <;> (try split) <;> omega
        refine zah <| SQ <| SR <| CN <| zad (v := .int .u64 _) rfl <| CN <| zad (v := .int .u64 _) rfl <| CN <| za1 rfl rfl <| NL <| zaa rfl (fun g28 => ?_) (fun g28 => ?_)
        ·exfalso
         omega
        refine zah <| SR <| CN <| zad (v := .int .u64 _) rfl <| MI rfl ?_
        first | refine CN (zaH ty3 zc8 rfl zeF ?_) | refine CN (zaP ty3 zc8 rfl ?_)
        refine CN <| zb6 rfl rfl rfl zeF <| CN <| zaf (v := .int .u64 _) rfl <| NSR <| CN <| zad (v := .int .u64 _) rfl <| MC rfl ?_
        first | refine CN (zaH ty5 zc8 rfl zeF ?_) | refine CN (zaP ty5 zc8 rfl ?_)
        refine CN <| zaC rfl rfl rfl zeF <| CN <| zaf (v := .int .u64 _) rfl <| NL <| zak [(1, .int .i64 _), (8, .bool _), (9, str _), (10, .int .u64 _), (11, .int .u64 _), (12, .bool _), (13, .int .u64 _), (17, .int .u64 _), (99, .slice _ _ _), (100, .int .i64 _), (101, .int .i64 _)] E11 fun f => SQ <| SR <| CN <| zad (v := .int .u64 _) rfl <| CN <| zad (v := .int .u64 _) rfl <| CN <| zaR rfl rfl <| MB rfl <| zap (d := 155) rfl (fun g29 => ?_) (fun g29 => ?_)
        ·exfalso
         omega
        refine TK (t := 155) rfl (Vb (Df g29)) <| zad (v := .int .u64 _) rfl <| TK (t := 155) rfl (Vb (Df g29)) <| zad (v := .int .u64 _) rfl <| TK (t := 155) rfl (Vb (Df g29)) <| zb1 rfl rfl <| CN <| zam (u := .bool _) (Vb (Df g29)) rfl <| NL <| zaa rfl (fun g30 => ?_) (fun g30 => ?_)
        ·exfalso
         omega
        refine zah <| RG <| CN <| zad (v := .int .u64 _) rfl <| CN <| zaf (v := .int .u64 _) rfl <| NL <| zaj <| RG <| CN <| zaC rfl rfl rfl zck <| MI rfl <| NL <| zax ?_
        exact ih9 ((i + 1, 16 * n + zdH (s.getD i 0))) _ w (by (try dsimp only); omega) hst (⟨by (try dsimp only); omega, by (try dsimp only); exact zbM hJ.2.1 (zff hyd).2, by (try dsimp only); rw [hJ.2.2, zcL (by omega) hyd]⟩) E7 ⟨rfl, (congrArg (Value.int .u64) (by (try dsimp only); omega)), (Vi (by (try dsimp only); omega)), trivial⟩
       refine SR <| CN <| za0 (v := .int .i64 _) zeK rfl rfl <| CN <| zaf (v := .int .u64 _) rfl <| CN <| zaf (v := .iface _ _) rfl <| NL <| zat Tryd.func87 rfl (TP (v := .int .u64 _) rfl) (TP (v := .iface _ _) rfl) ?_
       have hno : ¬ zdQ (s.getD i 0) = true := fun hn => by have hn2 := of_decide_eq_true hn; omega
       exact ⟨.inr ⟨.inr (hJ.2.2.trans (zbn Om hno)), rfl⟩, hst.pure⟩
      refine OM (t := 125) rfl (Vb (Df g25)) rfl <| OM (t := 125) rfl (Vb (Df g25)) rfl <| OM (t := 125) rfl (Vb (Df g25)) rfl <| CN <| zam (u := .bool _) (Vb (Df g25)) rfl <| AB rfl <| NL <| zak [(1, .int .i64 _), (8, .bool _), (9, str _), (10, .int .u64 _), (11, .int .u64 _), (12, .bool _), (13, .int .u64 _), (15, .int .u8 _), (99, .slice _ _ _), (100, .int .i64 _), (101, .int .i64 _), (121, .bool _)] E12 fun f => zal (Vb (rfl : false = _)) <| SR <| CN <| za0 (v := .int .i64 _) zeK rfl rfl <| CN <| zaf (v := .int .u64 _) rfl <| CN <| zaf (v := .iface _ _) rfl <| NL <| zat Tryd.func87 rfl (TP (v := .int .u64 _) rfl) (TP (v := .iface _ _) rfl) ?_
      have hno : ¬ zdQ (s.getD i 0) = true := fun hn => by have hn2 := of_decide_eq_true hn; omega
      exact ⟨.inr ⟨.inr (hJ.2.2.trans (zbn Om hno)), rfl⟩, hst.pure⟩
     refine OM (t := 109) rfl (Vb (Df g11)) rfl <| CN <| zam (u := .bool _) (Vb (Df g11)) rfl <| AB rfl <| NL <| zal (Vb (rfl : false = _)) <| SR <| MC rfl <| CN <| zba rfl rfl <| MB rfl <| zap (d := 115) rfl (fun g31 => ?_) (fun g31 => ?_)
     ·refine TK (t := 115) rfl (Vb (Dt g31)) <| zad (v := .int .u8 _) rfl <| TK (t := 115) rfl (Vb (Dt g31)) <| zba rfl rfl <| CN <| zar (u := .bool _) (Vb (Dt g31)) rfl <| AB rfl <| NL <| zaa rfl (fun g32 => ?_) (fun g32 => ?_)
      ·refine RG <| MC rfl <| CN <| zbA rfl rfl rfl Wu8 <| AC rfl <| NL <| zaj <| zak [(1, .int .i64 _), (8, .bool _), (9, str _), (10, .int .u64 _), (11, .int .u64 _), (12, .bool _), (13, .int .u64 _), (16, .int .u8 _), (99, .slice _ _ _), (100, .int .i64 _), (101, .int .i64 _)] E11 fun f => SQ <| SR <| MC rfl <| MI rfl ?_
       first | refine CN (zaH ty3 ty5 rfl Wu8 ?_) | refine CN (zaP ty3 ty5 rfl ?_)
       refine CN <| za1 rfl rfl <| NL <| zaa rfl (fun g33 => ?_) (fun g33 => ?_)
       ·exfalso
        omega
       have hyd : zdQ (s.getD i 0) = true := Dt Om
       have hwd : (zdH (s.getD i 0) : Int) = ((s.getD i 0).toNat : Int) - 48 := by have hq := of_decide_eq_true hyd; unfold zdH; split <;> (try split) <;> omega
       refine zah <| SQ <| SR <| CN <| zad (v := .int .u64 _) rfl <| CN <| zad (v := .int .u64 _) rfl <| CN <| za1 rfl rfl <| NL <| zaa rfl (fun g34 => ?_) (fun g34 => ?_)
       ·exfalso
        omega
       refine zah <| SR <| CN <| zad (v := .int .u64 _) rfl <| MI rfl ?_
       first | refine CN (zaH ty3 zc8 rfl zeF ?_) | refine CN (zaP ty3 zc8 rfl ?_)
       refine CN <| zb6 rfl rfl rfl zeF <| CN <| zaf (v := .int .u64 _) rfl <| NSR <| CN <| zad (v := .int .u64 _) rfl <| MC rfl ?_
       first | refine CN (zaH ty5 zc8 rfl zeF ?_) | refine CN (zaP ty5 zc8 rfl ?_)
       refine CN <| zaC rfl rfl rfl zeF <| CN <| zaf (v := .int .u64 _) rfl <| NL <| SQ <| SR <| CN <| zad (v := .int .u64 _) rfl <| CN <| zad (v := .int .u64 _) rfl <| CN <| zaR rfl rfl <| MB rfl <| zap (d := 155) rfl (fun g35 => ?_) (fun g35 => ?_)
       ·exfalso
        omega
       refine TK (t := 155) rfl (Vb (Df g35)) <| zad (v := .int .u64 _) rfl <| TK (t := 155) rfl (Vb (Df g35)) <| zad (v := .int .u64 _) rfl <| TK (t := 155) rfl (Vb (Df g35)) <| zb1 rfl rfl <| CN <| zam (u := .bool _) (Vb (Df g35)) rfl <| NL <| zak [(1, .int .i64 _), (8, .bool _), (9, str _), (10, .int .u64 _), (11, .int .u64 _), (12, .bool _), (17, .int .u64 _), (99, .slice _ _ _), (100, .int .i64 _), (101, .int .i64 _), (159, .bool _)] E11 fun f => zaa rfl (fun g36 => ?_) (fun g36 => ?_)
       ·exfalso
        omega
       refine zah <| RG <| CN <| zad (v := .int .u64 _) rfl <| CN <| zaf (v := .int .u64 _) rfl <| NL <| zaj <| RG <| CN <| zaC rfl rfl rfl zck <| MI rfl <| NL <| zax ?_
       exact ih9 ((i + 1, 16 * n + zdH (s.getD i 0))) _ w (by (try dsimp only); omega) hst (⟨by (try dsimp only); omega, by (try dsimp only); exact zbM hJ.2.1 (zff hyd).2, by (try dsimp only); rw [hJ.2.2, zcL (by omega) hyd]⟩) E7 ⟨rfl, (congrArg (Value.int .u64) (by (try dsimp only); omega)), (Vi (by (try dsimp only); omega)), trivial⟩
      refine SR <| MC rfl <| CN <| zao (v1 := .int .u8 _) zc1 rfl rfl <| Ret.det (zbz _ _) hst fun w hst => CN <| zba rfl rfl <| MB rfl <| zap (d := 125) rfl (fun g37 => ?_) (fun g37 => ?_)
      ·refine TK (t := 125) rfl (Vb (Dt g37)) <| zad (v := .int .u8 _) rfl <| TK (t := 125) rfl (Vb (Dt g37)) (zao (v1 := .int .u8 _) zc1 rfl rfl ((zbz _ _).mono fun v w hp => ?_))
       obtain ⟨rfl, hp⟩ := hp
       replace hst := hst.keepc hp
       clear hp
       refine TK (t := 125) rfl (Vb (Dt g37)) <| zba rfl rfl <| CN <| zar (u := .bool _) (Vb (Dt g37)) rfl <| AB rfl <| NL <| zak [(1, .int .i64 _), (8, .bool _), (9, str _), (10, .int .u64 _), (11, .int .u64 _), (12, .bool _), (13, .int .u64 _), (15, .int .u8 _), (99, .slice _ _ _), (100, .int .i64 _), (101, .int .i64 _), (121, .bool _)] E12 fun f => zaa rfl (fun g38 => ?_) (fun g38 => ?_)
       ·refine RG <| MC rfl <| CN <| zao (v1 := .int .u8 _) zc1 rfl rfl <| Ret.det (zbz _ _) hst fun w hst => CN <| zbA rfl rfl rfl Wu8 <| CN <| zaC rfl rfl rfl Wu8 <| AC rfl <| NL <| zaj <| SQ <| SR <| MC rfl <| MI rfl ?_
        first | refine CN (zaH ty3 ty5 rfl Wu8 ?_) | refine CN (zaP ty3 ty5 rfl ?_)
        refine CN <| za1 rfl rfl <| NL <| zaa rfl (fun g39 => ?_) (fun g39 => ?_)
        ·refine SR <| CN <| za0 (v := .int .i64 _) zeK rfl rfl <| CN <| zaf (v := .int .u64 _) rfl <| CN <| zaf (v := .iface _ _) rfl <| NL <| zat Tryd.func87 rfl (TP (v := .int .u64 _) rfl) (TP (v := .iface _ _) rfl) ?_
         have hno : ¬ zdQ (s.getD i 0) = true := fun hn => by have hn2 := of_decide_eq_true hn; omega
         exact ⟨.inr ⟨.inr (hJ.2.2.trans (zbn Om hno)), rfl⟩, hst.pure⟩
        have hyd : zdQ (s.getD i 0) = true := Classical.byContradiction fun hn => by have hn2 := of_decide_eq_false (Bool.not_eq_true _ ▸ hn); omega
        have hwd : (zdH (s.getD i 0) : Int) = bits .or .u8 ((s.getD i 0).toNat : Int) 32 - 87 := by have hq := of_decide_eq_true hyd; unfold zdH; split <;> (try split) <;> omega
        refine zah <| SQ <| SR <| CN <| zad (v := .int .u64 _) rfl <| CN <| zad (v := .int .u64 _) rfl <| CN <| za1 rfl rfl <| NL <| zaa rfl (fun g40 => ?_) (fun g40 => ?_)
        ·exfalso
         omega
        refine zah <| SR <| CN <| zad (v := .int .u64 _) rfl <| MI rfl ?_
        first | refine CN (zaH ty3 zc8 rfl zeF ?_) | refine CN (zaP ty3 zc8 rfl ?_)
        refine CN <| zb6 rfl rfl rfl zeF <| CN <| zaf (v := .int .u64 _) rfl <| NSR <| CN <| zad (v := .int .u64 _) rfl <| MC rfl ?_
        first | refine CN (zaH ty5 zc8 rfl zeF ?_) | refine CN (zaP ty5 zc8 rfl ?_)
        refine CN <| zaC rfl rfl rfl zeF <| CN <| zaf (v := .int .u64 _) rfl <| NL <| zak [(1, .int .i64 _), (8, .bool _), (9, str _), (10, .int .u64 _), (11, .int .u64 _), (12, .bool _), (13, .int .u64 _), (17, .int .u64 _), (99, .slice _ _ _), (100, .int .i64 _), (101, .int .i64 _)] E11 fun f => SQ <| SR <| CN <| zad (v := .int .u64 _) rfl <| CN <| zad (v := .int .u64 _) rfl <| CN <| zaR rfl rfl <| MB rfl <| zap (d := 155) rfl (fun g41 => ?_) (fun g41 => ?_)
        ·exfalso
         omega
        refine TK (t := 155) rfl (Vb (Df g41)) <| zad (v := .int .u64 _) rfl <| TK (t := 155) rfl (Vb (Df g41)) <| zad (v := .int .u64 _) rfl <| TK (t := 155) rfl (Vb (Df g41)) <| zb1 rfl rfl <| CN <| zam (u := .bool _) (Vb (Df g41)) rfl <| NL <| zaa rfl (fun g42 => ?_) (fun g42 => ?_)
        ·exfalso
         omega
        refine zah <| RG <| CN <| zad (v := .int .u64 _) rfl <| CN <| zaf (v := .int .u64 _) rfl <| NL <| zaj <| RG <| CN <| zaC rfl rfl rfl zck <| MI rfl <| NL <| zax ?_
        exact ih9 ((i + 1, 16 * n + zdH (s.getD i 0))) _ w (by (try dsimp only); omega) hst (⟨by (try dsimp only); omega, by (try dsimp only); exact zbM hJ.2.1 (zff hyd).2, by (try dsimp only); rw [hJ.2.2, zcL (by omega) hyd]⟩) E7 ⟨rfl, (congrArg (Value.int .u64) (by (try dsimp only); omega)), (Vi (by (try dsimp only); omega)), trivial⟩
       refine SR <| CN <| za0 (v := .int .i64 _) zeK rfl rfl <| CN <| zaf (v := .int .u64 _) rfl <| CN <| zaf (v := .iface _ _) rfl <| NL <| zat Tryd.func87 rfl (TP (v := .int .u64 _) rfl) (TP (v := .iface _ _) rfl) ?_
       have hno : ¬ zdQ (s.getD i 0) = true := fun hn => by have hn2 := of_decide_eq_true hn; omega
       exact ⟨.inr ⟨.inr (hJ.2.2.trans (zbn Om hno)), rfl⟩, hst.pure⟩
      refine OM (t := 125) rfl (Vb (Df g37)) rfl <| OM (t := 125) rfl (Vb (Df g37)) rfl <| OM (t := 125) rfl (Vb (Df g37)) rfl <| CN <| zam (u := .bool _) (Vb (Df g37)) rfl <| AB rfl <| NL <| zak [(1, .int .i64 _), (8, .bool _), (9, str _), (10, .int .u64 _), (11, .int .u64 _), (12, .bool _), (13, .int .u64 _), (15, .int .u8 _), (99, .slice _ _ _), (100, .int .i64 _), (101, .int .i64 _), (121, .bool _)] E12 fun f => zal (Vb (rfl : false = _)) <| SR <| CN <| za0 (v := .int .i64 _) zeK rfl rfl <| CN <| zaf (v := .int .u64 _) rfl <| CN <| zaf (v := .iface _ _) rfl <| NL <| zat Tryd.func87 rfl (TP (v := .int .u64 _) rfl) (TP (v := .iface _ _) rfl) ?_
      have hno : ¬ zdQ (s.getD i 0) = true := fun hn => by have hn2 := of_decide_eq_true hn; omega
      exact ⟨.inr ⟨.inr (hJ.2.2.trans (zbn Om hno)), rfl⟩, hst.pure⟩
     refine OM (t := 115) rfl (Vb (Df g31)) rfl <| OM (t := 115) rfl (Vb (Df g31)) rfl <| CN <| zam (u := .bool _) (Vb (Df g31)) rfl <| AB rfl <| NL <| zal (Vb (rfl : false = _)) <| SR <| MC rfl <| CN <| zao (v1 := .int .u8 _) zc1 rfl rfl <| Ret.det (zbz _ _) hst fun w hst => CN <| zba rfl rfl <| MB rfl <| zap (d := 125) rfl (fun g43 => ?_) (fun g43 => ?_)
     ·refine TK (t := 125) rfl (Vb (Dt g43)) <| zad (v := .int .u8 _) rfl <| TK (t := 125) rfl (Vb (Dt g43)) (zao (v1 := .int .u8 _) zc1 rfl rfl ((zbz _ _).mono fun v w hp => ?_))
      obtain ⟨rfl, hp⟩ := hp
      replace hst := hst.keepc hp
      clear hp
      refine TK (t := 125) rfl (Vb (Dt g43)) <| zba rfl rfl <| CN <| zar (u := .bool _) (Vb (Dt g43)) rfl <| AB rfl <| NL <| zak [(1, .int .i64 _), (8, .bool _), (9, str _), (10, .int .u64 _), (11, .int .u64 _), (12, .bool _), (13, .int .u64 _), (15, .int .u8 _), (99, .slice _ _ _), (100, .int .i64 _), (101, .int .i64 _), (121, .bool _)] E12 fun f => zaa rfl (fun g44 => ?_) (fun g44 => ?_)
      ·refine RG <| MC rfl <| CN <| zao (v1 := .int .u8 _) zc1 rfl rfl <| Ret.det (zbz _ _) hst fun w hst => CN <| zbA rfl rfl rfl Wu8 <| CN <| zaC rfl rfl rfl Wu8 <| AC rfl <| NL <| zaj <| SQ <| SR <| MC rfl <| MI rfl ?_
       first | refine CN (zaH ty3 ty5 rfl Wu8 ?_) | refine CN (zaP ty3 ty5 rfl ?_)
       refine CN <| za1 rfl rfl <| NL <| zaa rfl (fun g45 => ?_) (fun g45 => ?_)
       ·refine SR <| CN <| za0 (v := .int .i64 _) zeK rfl rfl <| CN <| zaf (v := .int .u64 _) rfl <| CN <| zaf (v := .iface _ _) rfl <| NL <| zat Tryd.func87 rfl (TP (v := .int .u64 _) rfl) (TP (v := .iface _ _) rfl) ?_
        have hno : ¬ zdQ (s.getD i 0) = true := fun hn => by have hn2 := of_decide_eq_true hn; omega
        exact ⟨.inr ⟨.inr (hJ.2.2.trans (zbn Om hno)), rfl⟩, hst.pure⟩
       have hyd : zdQ (s.getD i 0) = true := Classical.byContradiction fun hn => by have hn2 := of_decide_eq_false (Bool.not_eq_true _ ▸ hn); omega
       have hwd : (zdH (s.getD i 0) : Int) = bits .or .u8 ((s.getD i 0).toNat : Int) 32 - 87 := by have hq := of_decide_eq_true hyd; unfold zdH; split <;> (try split) <;> omega
       refine zah <| SQ <| SR <| CN <| zad (v := .int .u64 _) rfl <| CN <| zad (v := .int .u64 _) rfl <| CN <| za1 rfl rfl <| NL <| zaa rfl (fun g46 => ?_) (fun g46 => ?_)
       ·exfalso
        omega
       refine zah <| SR <| CN <| zad (v := .int .u64 _) rfl <| MI rfl ?_
       first | refine CN (zaH ty3 zc8 rfl zeF ?_) | refine CN (zaP ty3 zc8 rfl ?_)
       refine CN <| zb6 rfl rfl rfl zeF <| CN <| zaf (v := .int .u64 _) rfl <| NSR <| CN <| zad (v := .int .u64 _) rfl <| MC rfl ?_
       first | refine CN (zaH ty5 zc8 rfl zeF ?_) | refine CN (zaP ty5 zc8 rfl ?_)
       refine CN <| zaC rfl rfl rfl zeF <| CN <| zaf (v := .int .u64 _) rfl <| NL <| zak [(1, .int .i64 _), (8, .bool _), (9, str _), (10, .int .u64 _), (11, .int .u64 _), (12, .bool _), (13, .int .u64 _), (17, .int .u64 _), (99, .slice _ _ _), (100, .int .i64 _), (101, .int .i64 _)] E11 fun f => SQ <| SR <| CN <| zad (v := .int .u64 _) rfl <| CN <| zad (v := .int .u64 _) rfl <| CN <| zaR rfl rfl <| MB rfl <| zap (d := 155) rfl (fun g47 => ?_) (fun g47 => ?_)
       ·exfalso
        omega
       refine TK (t := 155) rfl (Vb (Df g47)) <| zad (v := .int .u64 _) rfl <| TK (t := 155) rfl (Vb (Df g47)) <| zad (v := .int .u64 _) rfl <| TK (t := 155) rfl (Vb (Df g47)) <| zb1 rfl rfl <| CN <| zam (u := .bool _) (Vb (Df g47)) rfl <| NL <| zaa rfl (fun g48 => ?_) (fun g48 => ?_)
       ·exfalso
        omega
       refine zah <| RG <| CN <| zad (v := .int .u64 _) rfl <| CN <| zaf (v := .int .u64 _) rfl <| NL <| zaj <| RG <| CN <| zaC rfl rfl rfl zck <| MI rfl <| NL <| zax ?_
       exact ih9 ((i + 1, 16 * n + zdH (s.getD i 0))) _ w (by (try dsimp only); omega) hst (⟨by (try dsimp only); omega, by (try dsimp only); exact zbM hJ.2.1 (zff hyd).2, by (try dsimp only); rw [hJ.2.2, zcL (by omega) hyd]⟩) E7 ⟨rfl, (congrArg (Value.int .u64) (by (try dsimp only); omega)), (Vi (by (try dsimp only); omega)), trivial⟩
      refine SR <| CN <| za0 (v := .int .i64 _) zeK rfl rfl <| CN <| zaf (v := .int .u64 _) rfl <| CN <| zaf (v := .iface _ _) rfl <| NL <| zat Tryd.func87 rfl (TP (v := .int .u64 _) rfl) (TP (v := .iface _ _) rfl) ?_
      have hno : ¬ zdQ (s.getD i 0) = true := fun hn => by have hn2 := of_decide_eq_true hn; omega
      exact ⟨.inr ⟨.inr (hJ.2.2.trans (zbn Om hno)), rfl⟩, hst.pure⟩
     refine OM (t := 125) rfl (Vb (Df g43)) rfl <| OM (t := 125) rfl (Vb (Df g43)) rfl <| OM (t := 125) rfl (Vb (Df g43)) rfl <| CN <| zam (u := .bool _) (Vb (Df g43)) rfl <| AB rfl <| NL <| zak [(1, .int .i64 _), (8, .bool _), (9, str _), (10, .int .u64 _), (11, .int .u64 _), (12, .bool _), (13, .int .u64 _), (15, .int .u8 _), (99, .slice _ _ _), (100, .int .i64 _), (101, .int .i64 _), (121, .bool _)] E12 fun f => zal (Vb (rfl : false = _)) <| SR <| CN <| za0 (v := .int .i64 _) zeK rfl rfl <| CN <| zaf (v := .int .u64 _) rfl <| CN <| zaf (v := .iface _ _) rfl <| NL <| zat Tryd.func87 rfl (TP (v := .int .u64 _) rfl) (TP (v := .iface _ _) rfl) ?_
     have hno : ¬ zdQ (s.getD i 0) = true := fun hn => by have hn2 := of_decide_eq_true hn; omega
     exact ⟨.inr ⟨.inr (hJ.2.2.trans (zbn Om hno)), rfl⟩, hst.pure⟩
    refine zaI (id := 3) rfl <| SQ <| SR <| MB rfl <| MB rfl <| OM (t := 165) rfl (Vb (rfl : false = _)) rfl <| OM (t := 165) rfl (Vb (rfl : false = _)) rfl <| OM (t := 165) rfl (Vb (rfl : false = _)) rfl <| CN <| zam (u := .bool _) (Vb (rfl : false = _)) rfl <| NL <| zal (Vb (rfl : false = _)) <| zah <| SQ <| RG ?_
    refine CN <| zad (v := .int .u64 _) rfl <| CN <| zaf (v := .int .u64 _) rfl <| CN <| zaf (v := .nilIface) rfl <| NL <| zat Tryd.func87 rfl (TP (v := .int .u64 _) rfl) (TP (v := .nilIface) rfl) ?_
    exact ⟨.inl ⟨n, fun e => g1 (List.length_eq_zero_iff.1 e), hJ.2.2.trans (zo7 Om), rfl⟩, hst.pure⟩
   exfalso
   omega
  exfalso
  omega
 exfalso
 omega
end Go.SK
namespace Go.SK
open Go Go.Proofs
theorem ent87 : zaB Tryd.prog 87 := ⟨Tryd.f87, _, Tryd.func87, Kr, rfl⟩
theorem zq4 : TyF Tryd.prog 92 (.interface (zni Tryd.prog 92)) 1 16 [.nilIface] := zaZ Kr Kr
theorem ent88 : zaB Tryd.prog 88 := ⟨Tryd.f88, _, Tryd.func88, Kr, rfl⟩
theorem ent67 : zaB Tryd.prog 67 := ⟨Tryd.f67, _, Tryd.func67, Kr, rfl⟩
theorem zqK : zaB Tryd.prog 39 := ⟨Tryd.f39, _, Tryd.func39, Kr, rfl⟩
theorem zqI : zaB Tryd.prog 65 := ⟨Tryd.f65, _, Tryd.func65, Kr, rfl⟩
theorem znE : zaB Tryd.prog 66 := ⟨Tryd.f66, _, Tryd.func66, Kr, rfl⟩
theorem ent64 : zaB Tryd.prog 64 := ⟨Tryd.f64, _, Tryd.func64, Kr, rfl⟩
theorem ent68 : zaB Tryd.prog 68 := ⟨Tryd.f68, _, Tryd.func68, Kr, rfl⟩
end Go.SK
namespace Go.SK
open Go Go.Proofs
open Go.RowKit
theorem znX (s : Tx) (hl : s.length ≤ 8) (w : World) (hG : LxG.holds w) : Ret Tryd.prog 67 #[str s, .int .i64 16, .int .i64 32] w (fun v w' => ((∃ n, s.length ≠ 0 ∧ zbO s 0 = some n ∧ v = .tuple #[.int .u64 (n : Int), .nilIface]) ∨ ((s.length = 0 ∨ zbO s 0 = none) ∧ ∃ N, v = .tuple #[.int .u64 0, .iface 182 (.pointer (some ⟨N, 0, none⟩))])) ∧ St w NoM [] [] w') := by
 refine zaq (args := [str s, .int .i64 16, .int .i64 32]) Tryd.func67 rfl rfl rfl ?_
 have hst : St w NoM [] [LxG] w := St.init_Ds (by simp only [List.forall_mem_cons]; exact ⟨hG, fun _ h => absurd h List.not_mem_nil⟩)
 refine SR <| CN <| zaf (v := .int .u64 _) rfl <| CN <| zaf (v := .nilIface) rfl <| NSR <| MS rfl <| MI rfl <| MI rfl <| CN (zeB (v1 := str _) (v2 := .int .i64 _) (v3 := .int .i64 _) ent87 rfl rfl rfl rfl ((zl5 s hl _).mono fun v w hp => ?_))
 replace hp := or_and_right.1 hp
 rcases hp with ⟨⟨n, hne, hn, rfl⟩, hp⟩ | ⟨⟨hno, rfl⟩, hp⟩
 ·replace hst := hst.keepc hp
  clear hp
  refine CN <| zad (v := .tuple #[.int .u64 _, .nilIface]) rfl <| CN <| Ex (.int .u64 _) rfl rfl <| CN <| Ex (.nilIface) rfl rfl <| CN <| zaf (v := .int .u64 _) rfl <| CN <| zaf (v := .nilIface) rfl <| NL <| SQ <| SR <| CN <| zad (v := .nilIface) rfl <| CN <| zoc zq4 rfl rfl <| NL <| zal (Vb (rfl : false = _)) <| zah <| SQ ?_
  refine RG <| CN <| zad (v := .int .u64 _) rfl <| CN <| zaf (v := .int .u64 _) rfl <| CN <| zaf (v := .nilIface) rfl <| NL <| zat Tryd.func67 rfl (TP (v := .int .u64 _) rfl) (TP (v := .nilIface) rfl) ?_
  exact ⟨.inl ⟨n, hne, hn, rfl⟩, hst.pure⟩
 ·replace hst := hst.keepc hp
  clear hp
  refine CN <| zad (v := .tuple #[.int .u64 _, .iface _ _]) rfl <| CN <| Ex (.int .u64 _) rfl rfl <| CN <| Ex (.iface _ _) rfl rfl <| CN <| zaf (v := .int .u64 _) rfl <| CN <| zaf (v := .iface _ _) rfl <| NL <| SQ <| SR <| CN <| zad (v := .iface _ _) rfl <| CN <| zod zq4 rfl rfl <| NL <| zas (Vb (rfl : true = _)) <| SQ <| RG ?_
  refine CN <| zad (v := .int .u64 _) rfl <| MS rfl <| MI rfl <| MI rfl <| CN <| zad (v := .iface _ _) rfl <| CN (zof (v1 := str _) (v2 := str _) (v3 := .int .i64 _) (v4 := .int .i64 _) (v5 := .iface _ _) ent88 rfl rfl rfl rfl rfl rfl ((lx_TE _ s _ (hst.hD _ Q0) Om).mono fun v w hp => ?_))
  obtain ⟨⟨N, rfl⟩, hp⟩ := hp
  replace hst := hst.keepc hp
  clear hp
  refine CN <| zaf (v := .int .u64 _) rfl <| CN <| zaf (v := .iface _ _) rfl <| NL <| zat Tryd.func67 rfl (TP (v := .int .u64 _) rfl) (TP (v := .iface _ _) rfl) ?_
  exact ⟨.inr ⟨hno, N, rfl⟩, hst.pure⟩
theorem ze6 (s : Tx) (w : World) (hG : LxG.holds w) (hl : s.length ≤ 140737488355328) : Ret Tryd.prog 65 #[str s] w (fun v w' => v = .tuple #[.int .u32 (puV s : Int), .bool (zaT s).isSome] ∧ St w NoM [] [] w') := by
 refine zaq (args := [str s]) Tryd.func65 rfl rfl rfl ?_
 have hst : St w NoM [] [LxG] w := St.init_Ds (by simp only [List.forall_mem_cons]; exact ⟨hG, fun _ h => absurd h List.not_mem_nil⟩)
 have hpv := zpX s
 refine SR <| AU rfl <| AB rfl <| NSR <| MS rfl <| CN (zeB (v1 := str _) (v2 := .int .i64 _) (v3 := .int .i64 _) ent67 rfl rfl rfl rfl ((zqz s _ (hst.hD _ Q0) Om).mono fun v w hp => ?_))
 replace hp := or_and_right.1 hp
 rcases hp with ⟨⟨ho, rfl⟩, hp⟩ | ⟨⟨ho, N, rfl⟩, hp⟩
 ·replace hst := hst.keepc hp
  clear hp
  refine CN <| zad (v := .tuple #[.int .u64 _, .nilIface]) rfl <| CN <| Ex (.int .u64 _) rfl rfl <| CN <| Ex (.nilIface) rfl rfl <| CN <| zaf (v := .int .u64 _) rfl <| CN <| zaf (v := .nilIface) rfl <| NSR <| CN (zad (v := .int .u64 _) rfl ?_)
  first | refine CN (zaH zc8 zbT rfl zq8 ?_) | refine CN (zaP zc8 zbT rfl ?_)
  refine CN <| zad (v := .nilIface) rfl <| CN <| zje zq4 rfl rfl <| MB rfl <| TK (t := 15) rfl (Vb (rfl : true = _)) <| zad (v := .int .u64 _) rfl <| TK (t := 15) rfl (Vb (rfl : true = _)) (zaF (v1 := .int .u64 _) (v2 := .int .i64 _) zqK rfl rfl rfl ((zkf (puV s) Om _ (hst.hD _ Q0)).mono fun v w hp => ?_))
  obtain ⟨rfl, hp⟩ := hp
  replace hst := hst.keepc hp
  clear hp
  refine TK (t := 15) rfl (Vb (rfl : true = _)) <| zad (v := str _) rfl <| TK (t := 15) rfl (Vb (rfl : true = _)) <| zb7 rfl rfl <| CN <| zar (u := .bool _) (Vb (rfl : true = _)) rfl <| AU rfl <| AB rfl <| NL <| zat Tryd.func65 rfl (TP (v := .int .u32 _) rfl) (TP (v := .bool _) rfl) ?_
  rw [zm4 ho]
  exact ⟨rfl, hst.pure⟩
 ·replace hst := hst.keepc hp
  clear hp
  refine CN <| zad (v := .tuple #[.int .u64 _, .iface _ _]) rfl <| CN <| Ex (.int .u64 _) rfl rfl <| CN <| Ex (.iface _ _) rfl rfl <| CN <| zaf (v := .int .u64 _) rfl <| CN <| zaf (v := .iface _ _) rfl <| NSR <| CN (zad (v := .int .u64 _) rfl ?_)
  first | refine CN (zaH zc8 zbT rfl zq8 ?_) | refine CN (zaP zc8 zbT rfl ?_)
  refine CN <| zad (v := .iface _ _) rfl <| CN <| zjf zq4 rfl rfl <| MB rfl <| OM (t := 15) rfl (Vb (rfl : false = _)) rfl <| OM (t := 15) rfl (Vb (rfl : false = _)) rfl <| OM (t := 15) rfl (Vb (rfl : false = _)) rfl <| OM (t := 15) rfl (Vb (rfl : false = _)) rfl <| CN <| zam (u := .bool _) (Vb (rfl : false = _)) rfl <| AU rfl <| AB rfl <| NL <| zat Tryd.func65 rfl (TP (v := .int .u32 _) rfl) (TP (v := .bool _) rfl) ?_
  rw [zoS ho]
  exact ⟨rfl, hst.pure⟩
theorem zi3 (s : Tx) (w : World) (hG : LxG.holds w) (hl : s.length ≤ 140737488355328) : Ret Tryd.prog 51 #[str s] w (fun v w' => v = .tuple #[.int .u32 (za5 s).1, .int .i64 (za5 s).2] ∧ St w NoM [] [] w') := by
 refine zaq (args := [str s]) Tryd.func51 rfl rfl rfl ?_
 have hst : St w NoM [] [LxG] w := St.init_Ds (by simp only [List.forall_mem_cons]; exact ⟨hG, fun _ h => absurd h List.not_mem_nil⟩)
 refine SR <| AU rfl <| AI rfl <| NL <| SQ <| SR <| MS rfl <| CN <| zao (v1 := str _) zqI rfl rfl <| Ret.det (ze6 _ _ (hst.hD _ Q0) (by first | omega | (simp only [List.length_drop, List.length_take, List.length_append, List.length_cons, List.length_nil]; omega))) hst fun w hst => CN <| zad (v := .tuple #[.int .u32 _, .bool _]) rfl <| CN <| Ex (.int .u32 _) rfl rfl <| CN <| Ex (.bool _) rfl rfl <| AU rfl <| AB rfl ?_
 refine NSR <| MB rfl <| NL <| zaN rfl (fun g1 => ?_) (fun g1 => ?_)
 ·obtain ⟨n0, hn0⟩ := zf0 g1
  have hpr := zej hn0
  refine SR <| MU rfl <| AU rfl <| AI rfl <| NL <| zat Tryd.func51 rfl (TP (v := .int .u32 _) rfl) (TP (v := .int .i64 _) rfl) ?_
  rw [zdw hn0, hpr.2.1]
  exact ⟨rfl, hst.pure⟩
 have hpn := ziz g1
 refine zah <| SQ <| SR <| MS rfl <| CN (zaF (v1 := str _) (v2 := str _) znE rfl rfl rfl ((zit s [45] _).mono fun v w hp => ?_))
 rcases hp with ⟨hm0, rfl, hp⟩ | ⟨hm0, rfl, hp⟩
 ·replace hst := hst.keepc hp
  clear hp
  have hm := take1 hm0
  have hm45 : (45 : UInt8).toNat = 45 := rfl
  have hcl : ([45] : Tx).length = 1 := rfl
  rw [hm45] at hm
  refine CN <| zad (v := .tuple #[str _, .bool _]) rfl <| CN <| Ex (str _) rfl rfl <| CN <| Ex (.bool _) rfl rfl <| AS rfl <| AB rfl <| NSR <| MB rfl <| NL <| zas (Vb (rfl : true = _)) <| SR <| MS rfl <| CN <| zao (v1 := str _) zqI rfl rfl <| Ret.det (ze6 _ _ (hst.hD _ Q0) (by first | omega | (simp only [List.length_drop, List.length_take, List.length_append, List.length_cons, List.length_nil]; omega))) hst fun w hst => ?_
  refine CN <| zad (v := .tuple #[.int .u32 _, .bool _]) rfl <| CN <| Ex (.int .u32 _) rfl rfl <| CN <| Ex (.bool _) rfl rfl <| AU rfl <| AB rfl <| NL <| zak [(0, str _), (8, .int .u32 _), (9, .bool _)] E3 fun f => SR <| MB rfl <| MB rfl <| zcO (d := 33) rfl (fun g2 => ?_) (fun g2 => ?_)
  ·obtain ⟨m, hm0m⟩ := zf0 g2
   have hmm : zaT (s.drop 1) = some m := hm0m
   have hpm : puV (s.drop ([45] : Tx).length) = m := (zej hm0m).2.1
   refine TK (t := 33) rfl (Vb g2) <| zad (v := .int .u32 _) rfl <| TK (t := 33) rfl (Vb g2) <| za1 rfl rfl <| CN <| zar (u := .bool _) (Vb g2) rfl <| MB rfl <| zap (d := 37) rfl (fun g3 => ?_) (fun g3 => ?_)
   ·refine TK (t := 37) rfl (Vb (Dt g3)) <| zad (v := .int .u32 _) rfl <| TK (t := 37) rfl (Vb (Dt g3)) <| zba rfl rfl <| CN <| zar (u := .bool _) (Vb (Dt g3)) rfl <| NL <| zaa rfl (fun g4 => ?_) (fun g4 => ?_)
    ·refine SR <| MU rfl ?_
     first | refine CN (zpI rfl rfl zq8 ?_) | refine CN (zq1 rfl ?_)
     refine AU rfl <| AI rfl <| NL <| zat Tryd.func51 rfl (TP (v := .int .u32 _) rfl) (TP (v := .int .i64 _) rfl) ?_
     have hq : (1 : Int) ≤ (m : Int) ∧ (m : Int) ≤ 2147483648 := by omega
     rw [zjI hpn hm hmm (by omega)]
     have hw := zo0 (m := m) Om
     rw [hpm, hw]
     exact ⟨rfl, hst.pure⟩
    refine zah <| SQ <| SR <| MS rfl <| CN (zaF (v1 := str _) (v2 := str _) znE rfl rfl rfl ((zit s [48, 120] _).mono fun v w hp => ?_))
    rcases hp with ⟨hx0, rfl, hp⟩ | ⟨hx0, rfl, hp⟩
    ·have hx := zoD hx0
     have hx48 : (48 : UInt8).toNat = 48 := rfl
     have hx120 : (120 : UInt8).toNat = 120 := rfl
     rw [hx48, hx120] at hx
     exfalso; omega
    ·replace hst := hst.keepc hp
     clear hp
     have hx := zfq hx0
     have hx48 : (48 : UInt8).toNat = 48 := rfl
     have hx120 : (120 : UInt8).toNat = 120 := rfl
     rw [hx48, hx120] at hx
     refine CN <| zad (v := .tuple #[str _, .bool _]) rfl <| CN <| Ex (str _) rfl rfl <| CN <| Ex (.bool _) rfl rfl <| AS rfl <| AB rfl <| NSR <| MB rfl <| MB rfl <| OM (t := 49) rfl (Vb (rfl : false = _)) rfl <| OM (t := 49) rfl (Vb (rfl : false = _)) rfl <| OM (t := 49) rfl (Vb (rfl : false = _)) rfl <| CN <| zam (u := .bool _) (Vb (rfl : false = _)) rfl <| MB rfl ?_
     refine OM (t := 54) rfl (Vb (rfl : false = _)) rfl <| OM (t := 54) rfl (Vb (rfl : false = _)) rfl <| OM (t := 54) rfl (Vb (rfl : false = _)) rfl <| OM (t := 54) rfl (Vb (rfl : false = _)) rfl <| CN <| zam (u := .bool _) (Vb (rfl : false = _)) rfl <| NL <| zak [(10, str _), (59, .bool _)] E2 fun f => zal (Vb (rfl : false = _)) <| zah <| SR <| AU rfl <| AI rfl <| NL <| zat Tryd.func51 rfl (TP (v := .int .u32 _) rfl) (TP (v := .int .i64 _) rfl) ?_
     rw [zcv hpn hm (fun n hn => by rw [hmm] at hn; cases hn; omega)]
     exact ⟨rfl, hst.pure⟩
   refine OM (t := 37) rfl (Vb (Df g3)) rfl <| OM (t := 37) rfl (Vb (Df g3)) rfl <| CN <| zam (u := .bool _) (Vb (Df g3)) rfl <| NL <| zal (Vb (rfl : false = _)) <| zah <| SQ <| SR <| MS rfl <| CN (zaF (v1 := str _) (v2 := str _) znE rfl rfl rfl ((zit s [48, 120] _).mono fun v w hp => ?_))
   rcases hp with ⟨hx0, rfl, hp⟩ | ⟨hx0, rfl, hp⟩
   ·have hx := zoD hx0
    have hx48 : (48 : UInt8).toNat = 48 := rfl
    have hx120 : (120 : UInt8).toNat = 120 := rfl
    rw [hx48, hx120] at hx
    exfalso; omega
   ·replace hst := hst.keepc hp
    clear hp
    have hx := zfq hx0
    have hx48 : (48 : UInt8).toNat = 48 := rfl
    have hx120 : (120 : UInt8).toNat = 120 := rfl
    rw [hx48, hx120] at hx
    refine CN <| zad (v := .tuple #[str _, .bool _]) rfl <| CN <| Ex (str _) rfl rfl <| CN <| Ex (.bool _) rfl rfl <| AS rfl <| AB rfl <| NSR <| MB rfl <| MB rfl <| OM (t := 49) rfl (Vb (rfl : false = _)) rfl <| OM (t := 49) rfl (Vb (rfl : false = _)) rfl <| OM (t := 49) rfl (Vb (rfl : false = _)) rfl <| CN <| zam (u := .bool _) (Vb (rfl : false = _)) rfl <| MB rfl ?_
    refine OM (t := 54) rfl (Vb (rfl : false = _)) rfl <| OM (t := 54) rfl (Vb (rfl : false = _)) rfl <| OM (t := 54) rfl (Vb (rfl : false = _)) rfl <| OM (t := 54) rfl (Vb (rfl : false = _)) rfl <| CN <| zam (u := .bool _) (Vb (rfl : false = _)) rfl <| NL <| zak [(10, str _), (59, .bool _)] E2 fun f => zal (Vb (rfl : false = _)) <| zah <| SR <| AU rfl <| AI rfl <| NL <| zat Tryd.func51 rfl (TP (v := .int .u32 _) rfl) (TP (v := .int .i64 _) rfl) ?_
    rw [zcv hpn hm (fun n hn => by rw [hmm] at hn; cases hn; omega)]
    exact ⟨rfl, hst.pure⟩
  have hmn : zaT (s.drop 1) = none := ziz g2
  refine OM (t := 33) rfl (Vb g2) rfl <| OM (t := 33) rfl (Vb g2) rfl <| CN <| zam (u := .bool _) (Vb g2) rfl <| MB rfl <| OM (t := 37) rfl (Vb (rfl : false = _)) rfl <| OM (t := 37) rfl (Vb (rfl : false = _)) rfl <| CN <| zam (u := .bool _) (Vb (rfl : false = _)) rfl <| NL <| zal (Vb (rfl : false = _)) <| zah <| SQ <| SR <| MS rfl <| CN (zaF (v1 := str _) (v2 := str _) znE rfl rfl rfl ((zit s [48, 120] _).mono fun v w hp => ?_))
  rcases hp with ⟨hx0, rfl, hp⟩ | ⟨hx0, rfl, hp⟩
  ·have hx := zoD hx0
   have hx48 : (48 : UInt8).toNat = 48 := rfl
   have hx120 : (120 : UInt8).toNat = 120 := rfl
   rw [hx48, hx120] at hx
   exfalso; omega
  ·replace hst := hst.keepc hp
   clear hp
   have hx := zfq hx0
   have hx48 : (48 : UInt8).toNat = 48 := rfl
   have hx120 : (120 : UInt8).toNat = 120 := rfl
   rw [hx48, hx120] at hx
   refine CN <| zad (v := .tuple #[str _, .bool _]) rfl <| CN <| Ex (str _) rfl rfl <| CN <| Ex (.bool _) rfl rfl <| AS rfl <| AB rfl <| NSR <| MB rfl <| MB rfl <| OM (t := 49) rfl (Vb (rfl : false = _)) rfl <| OM (t := 49) rfl (Vb (rfl : false = _)) rfl <| OM (t := 49) rfl (Vb (rfl : false = _)) rfl <| CN <| zam (u := .bool _) (Vb (rfl : false = _)) rfl <| MB rfl ?_
   refine OM (t := 54) rfl (Vb (rfl : false = _)) rfl <| OM (t := 54) rfl (Vb (rfl : false = _)) rfl <| OM (t := 54) rfl (Vb (rfl : false = _)) rfl <| OM (t := 54) rfl (Vb (rfl : false = _)) rfl <| CN <| zam (u := .bool _) (Vb (rfl : false = _)) rfl <| NL <| zal (Vb (rfl : false = _)) <| zah <| SR <| AU rfl <| AI rfl <| NL <| zat Tryd.func51 rfl (TP (v := .int .u32 _) rfl) (TP (v := .int .i64 _) rfl) ?_
   rw [zcv hpn hm (fun n hn => by rw [hmn] at hn; cases hn)]
   exact ⟨rfl, hst.pure⟩
 ·replace hst := hst.keepc hp
  clear hp
  have hm := zoE hm0
  have hm45 : (45 : UInt8).toNat = 45 := rfl
  rw [hm45] at hm
  refine CN <| zad (v := .tuple #[str _, .bool _]) rfl <| CN <| Ex (str _) rfl rfl <| CN <| Ex (.bool _) rfl rfl <| AS rfl <| AB rfl <| NSR <| MB rfl <| NL <| zal (Vb (rfl : false = _)) <| zah <| SQ <| SQ <| RG ?_
  refine MS rfl <| CN (zaF (v1 := str _) (v2 := str _) znE rfl rfl rfl ((zit s [48, 120] _).mono fun v w hp => ?_))
  rcases hp with ⟨hx0, rfl, hp⟩ | ⟨hx0, rfl, hp⟩
  ·replace hst := hst.keepc hp
   clear hp
   have hx := zoD hx0
   have hx48 : (48 : UInt8).toNat = 48 := rfl
   have hx120 : (120 : UInt8).toNat = 120 := rfl
   rw [hx48, hx120] at hx
   have hcl2 : ([48, 120] : Tx).length = 2 := rfl
   refine CN <| zad (v := .tuple #[str _, .bool _]) rfl <| CN <| Ex (str _) rfl rfl <| CN <| Ex (.bool _) rfl rfl <| AS rfl <| AB rfl <| NL <| zak [(10, str _), (11, .bool _)] E2 fun f => SR <| MB rfl <| MB rfl <| TK (t := 49) rfl (Vb (rfl : true = _)) <| zad (v := str _) rfl <| TK (t := 49) rfl (Vb (rfl : true = _)) <| zbs (rest := []) ty9 rfl <| TK (t := 49) rfl (Vb (rfl : true = _)) <| zba rfl rfl <| CN (zar (u := .bool _) (Vb (rfl : true = _)) rfl ?_)
   refine MB rfl <| zap (d := 54) rfl (fun g5 => ?_) (fun g5 => ?_)
   ·refine TK (t := 54) rfl (Vb (Dt g5)) <| zad (v := str _) rfl <| TK (t := 54) rfl (Vb (Dt g5)) (zao (v1 := str _) ent64 rfl rfl ((zk3 _ _ (by first | omega | (simp only [List.length_drop]; omega))).mono fun v w hp => ?_))
    obtain ⟨rfl, hp⟩ := hp
    replace hst := hst.keepc hp
    clear hp
    refine TK (t := 54) rfl (Vb (Dt g5)) <| zad (v := str _) rfl <| TK (t := 54) rfl (Vb (Dt g5)) <| zb7 rfl rfl <| CN <| zar (u := .bool _) (Vb (Dt g5)) rfl <| NL <| zaa rfl (fun g6 => ?_) (fun g6 => ?_)
    ·have hd2 : (s.drop ([48, 120] : Tx).length).length = s.length - 2 := List.length_drop
     have hd3 : (s.drop 2).length = s.length - 2 := List.length_drop
     have hl8 : (s.drop 2).length ≤ 8 := by omega
     refine SR <| MS rfl <| CN (zeB (v1 := str _) (v2 := .int .i64 _) (v3 := .int .i64 _) ent67 rfl rfl rfl rfl ((znX (s.drop 2) hl8 _ (hst.hD _ Q0)).mono fun v w hp => ?_))
     replace hp := or_and_right.1 hp
     rcases hp with ⟨⟨n, hne, hn, rfl⟩, hp⟩ | ⟨⟨hno, N, rfl⟩, hp⟩
     ·replace hst := hst.keepc hp
      clear hp
      have hru := zfz _ _ _ hn
      have hnb := znp hn hl8
      refine CN <| zad (v := .tuple #[.int .u64 _, .nilIface]) rfl <| CN <| Ex (.int .u64 _) rfl rfl <| CN <| Ex (.nilIface) rfl rfl <| CN <| zaf (v := .int .u64 _) rfl <| CN <| zaf (v := .nilIface) rfl <| NL <| zak [(10, str _), (12, .int .u64 _), (13, .nilIface)] E3 fun f => SR <| CN <| zad (v := .nilIface) rfl <| CN <| zje zq4 rfl rfl <| MB rfl <| TK (t := 67) rfl (Vb (rfl : true = _)) <| zad (v := str _) rfl <| TK (t := 67) rfl (Vb (rfl : true = _)) (zaF (v1 := str _) (v2 := .int .u8 _) ent68 rfl rfl rfl ((lx_IB (s.drop 2) 95 _).mono fun v w hp => ?_))
      obtain ⟨he, hp⟩ := hp
      replace he := he.trans ((by rw [show (95 : Int).toNat.toUInt8 = 95 from rfl, hru.2] : _ = Value.int .i64 (-1)))
      subst he
      replace hst := hst.keepc hp
      clear hp
      refine TK (t := 67) rfl (Vb (rfl : true = _)) <| zaR rfl rfl <| CN <| zar (u := .bool _) (Vb (rfl : true = _)) rfl <| NL <| zaa rfl (fun g7 => ?_) (fun g7 => ?_)
      ·refine SR <| CN (zad (v := .int .u64 _) rfl ?_)
       first | refine CN (zaH zc8 zbT rfl zq8 ?_) | refine CN (zaP zc8 zbT rfl ?_)
       refine AU rfl <| AI rfl <| NL <| zat Tryd.func51 rfl (TP (v := .int .u32 _) rfl) (TP (v := .int .i64 _) rfl) ?_
       have hd2 : (s.drop 2).length = s.length - 2 := List.length_drop
       rw [zoZ hpn (by omega) (by omega) hn]
       exact ⟨rfl, hst.pure⟩
      exfalso
      omega
     ·replace hst := hst.keepc hp
      clear hp
      refine CN <| zad (v := .tuple #[.int .u64 _, .iface _ _]) rfl <| CN <| Ex (.int .u64 _) rfl rfl <| CN <| Ex (.iface _ _) rfl rfl <| CN <| zaf (v := .int .u64 _) rfl <| CN <| zaf (v := .iface _ _) rfl <| NL <| zak [(10, str _), (12, .int .u64 _), (13, .iface _ _)] E3 fun f => SR <| CN <| zad (v := .iface _ _) rfl <| CN <| zjf zq4 rfl rfl <| MB rfl <| OM (t := 67) rfl (Vb (rfl : false = _)) rfl <| OM (t := 67) rfl (Vb (rfl : false = _)) rfl <| OM (t := 67) rfl (Vb (rfl : false = _)) rfl ?_
      refine CN <| zam (u := .bool _) (Vb (rfl : false = _)) rfl <| NL <| zal (Vb (rfl : false = _)) <| zah <| SR <| AU rfl <| AI rfl <| NL <| zat Tryd.func51 rfl (TP (v := .int .u32 _) rfl) (TP (v := .int .i64 _) rfl) ?_
      have hd2 : (s.drop 2).length = s.length - 2 := List.length_drop
      rw [zdf hpn hx (by rcases hno with h0 | h0; exact .inr (.inl (by omega)); exact .inr (.inr h0))]
      exact ⟨rfl, hst.pure⟩
    refine zah <| SR <| AU rfl <| AI rfl <| NL <| zat Tryd.func51 rfl (TP (v := .int .u32 _) rfl) (TP (v := .int .i64 _) rfl) ?_
    rw [zdf hpn hx (.inr (.inr (by cases hq : zbO (s.drop 2) 0 with | none => rfl | some n => exact absurd (zfz _ _ _ hq).1 g6)))]
    exact ⟨rfl, hst.pure⟩
   refine OM (t := 54) rfl (Vb (Df g5)) rfl <| OM (t := 54) rfl (Vb (Df g5)) rfl <| OM (t := 54) rfl (Vb (Df g5)) rfl <| OM (t := 54) rfl (Vb (Df g5)) rfl <| CN <| zam (u := .bool _) (Vb (Df g5)) rfl <| NL <| zal (Vb (rfl : false = _)) <| zah <| SR <| AU rfl <| AI rfl <| NL <| zat Tryd.func51 rfl (TP (v := .int .u32 _) rfl) (TP (v := .int .i64 _) rfl) ?_
   have hd2 : (s.drop ([48, 120] : Tx).length).length = s.length - 2 := List.length_drop
   rw [zdf hpn hx (.inl (by omega))]
   exact ⟨rfl, hst.pure⟩
  ·replace hst := hst.keepc hp
   clear hp
   have hx := zfq hx0
   have hx48 : (48 : UInt8).toNat = 48 := rfl
   have hx120 : (120 : UInt8).toNat = 120 := rfl
   rw [hx48, hx120] at hx
   refine CN <| zad (v := .tuple #[str _, .bool _]) rfl <| CN <| Ex (str _) rfl rfl <| CN <| Ex (.bool _) rfl rfl <| AS rfl <| AB rfl <| NL <| zak [(10, str _), (11, .bool _)] E2 fun f => SR <| MB rfl <| MB rfl <| OM (t := 49) rfl (Vb (rfl : false = _)) rfl <| OM (t := 49) rfl (Vb (rfl : false = _)) rfl <| OM (t := 49) rfl (Vb (rfl : false = _)) rfl <| CN (zam (u := .bool _) (Vb (rfl : false = _)) rfl ?_)
   refine MB rfl <| OM (t := 54) rfl (Vb (rfl : false = _)) rfl <| OM (t := 54) rfl (Vb (rfl : false = _)) rfl <| OM (t := 54) rfl (Vb (rfl : false = _)) rfl <| OM (t := 54) rfl (Vb (rfl : false = _)) rfl <| CN <| zam (u := .bool _) (Vb (rfl : false = _)) rfl <| NL <| zal (Vb (rfl : false = _)) <| zah <| SR <| AU rfl <| AI rfl <| NL <| zat Tryd.func51 rfl (TP (v := .int .u32 _) rfl) (TP (v := .int .i64 _) rfl) ?_
   rw [zfv hpn (by omega) (by omega)]
   exact ⟨rfl, hst.pure⟩
end Go.SK
namespace Go.SK
open Go Go.Proofs
theorem ent51 : zaB Tryd.prog 51 := ⟨Tryd.f51, _, Tryd.func51, Kr, rfl⟩
end Go.SK
namespace Go.SK
open Go Go.Proofs
open Go.RowKit
theorem zke (s : Tx) (w : World) (hl : s.length ≤ 1099511627776) : Ret Tryd.prog 73 #[str s] w (fun v w' => v = str (zcf s) ∧ St w NoM [] [] w') := by
 refine zaq (args := [str s]) Tryd.func73 rfl rfl rfl ?_
 have hst := St.init w
 refine SR <| AS rfl <| NSR <| CN (zaG (z0 := [.int .u8 0]) hst zcU ty5 rfl rfl Kr (.c (v := .int .u8 _) rfl (h := .nil)) fun w b6 hst => ?_)
 refine AL rfl <| NL <| SQ <| SQ ?_
 replace hst := St.rowSl (n := 1) (es := 1) hst rfl (by rw [zcI]; omega)
 refine RG <| AI rfl <| NL <| zan <| zaY <| za4 [(0, str _)] ⟨rfl, trivial⟩ (fun (qq : Nat × Option Addr × Nat) => [(3, .slice qq.2.1 (qb s qq.1).length qq.2.2), (4, .int .i64 (qq.1 : Int))]) (fun (qq : Nat × Option Addr × Nat) => [Res.sl qq.2.1 (qb s qq.1).length qq.2.2 5 1 ((qb s qq.1).flatMap byC)]) (fun (qq : Nat × Option Addr × Nat) => qq.1 ≤ s.length) (fun (qq : Nat × Option Addr × Nat) => s.length - qq.1) ((0, some ⟨b6, 0, none⟩, 1)) hst (Nat.zero_le _) E2 ?_
 intro ⟨i, aq, cq⟩ f w hst hJ ih1
 replace hst : St _ _ ([Res.sl aq (qb s i).length cq 5 1 ((qb s i).flatMap byC)] ++ []) _ _ := hst
 replace hJ : i ≤ s.length := hJ
 refine zbp (sl := [(3, .slice aq (qb s i).length cq), (4, .int .i64 (i : Int))]) E2 ?_
 have hidx : (s.getD ((i : Int).toNat) 0).toNat = (s.getD i 0).toNat := rfl
 have hql := zpW s i
 have hc8 := (s.getD i 0).toNat_lt
 refine SQ <| SR <| MI rfl <| MS rfl <| CN <| zbs (rest := []) ty9 rfl <| CN <| zaR rfl rfl <| NL <| zaa rfl (fun g2 => ?_) (fun g2 => ?_)
 ·refine zah <| SQ <| zan <| SR <| MS rfl <| MI rfl <| CN <| za9 ty9 rfl rfl Om Om <| AC rfl <| NL <| zan <| SQ <| zan <| SQ <| zan ?_
  refine SQ <| zan <| SQ <| SQ <| SR <| MC rfl <| CN <| zaR rfl rfl <| MB rfl <| zap (d := 19) rfl (fun g3 => ?_) (fun g3 => ?_)
  ·refine OM (t := 19) rfl (Vb (Dt g3)) rfl <| OM (t := 19) rfl (Vb (Dt g3)) rfl <| CN <| zar (u := .bool _) (Vb (Dt g3)) rfl <| AB rfl <| NL <| zas (Vb (rfl : true = _)) <| zaI (id := 3) rfl <| SQ <| RunD.start [] hst (bs := [0, 0, 2, 6, 0, 16, 48, 126, 255, 511]) (ds := [some 28, some 29, some 30, some 31, some 32, some 33, some 34, some 35, some 36, some 3]) ⟨Kr, Kr, Kr⟩ (fun tab4 => ?_)
   refine DO tab4 1 (fun f' L' w' hc=> zad (v := .slice _ _ _) (hc.old rfl rfl rfl) hc.z) <| DO tab4 2 (fun f' L' w' hc=> zad (v := .int .u8 _) (hc.old rfl rfl rfl) hc.z) <| DO tab4 3 (fun f' L' w' hc=> zk6 (c := (((s.getD i 0).toNat / 16 : Nat) : Int)) (hc.d 1 rfl rfl rfl rfl) rfl (by decide) (by decide) (by rw [show (2 : Int) ^ (4 : Int).toNat = 16 from rfl]; omega) hc.z) <| DO tab4 4 (fun f' L' w' hc=> za9 (s := [48, 49, 50, 51, 52, 53, 54, 55, 56, 57, 97, 98, 99, 100, 101, 102]) ty9 rfl (hc.d 2 rfl rfl rfl rfl) (by omega) (by (have hl16 : ([48, 49, 50, 51, 52, 53, 54, 55, 56, 57, 97, 98, 99, 100, 101, 102] : Tx).length = 16 := rfl); omega) hc.z) <| DO tab4 5 (fun f' L' w' hc=> zad (v := .int .u8 _) (hc.old rfl rfl rfl) hc.z) <| DO tab4 6 (fun f' L' w' hc=> zjj (m := (s.getD i 0).toNat) (hc.d 4 rfl rfl rfl rfl) rfl (by omega) (by omega) hc.z) <| DO tab4 7 (fun f' L' w' hc=> za9 (s := [48, 49, 50, 51, 52, 53, 54, 55, 56, 57, 97, 98, 99, 100, 101, 102]) ty9 rfl (hc.d 5 rfl rfl rfl rfl) (by omega) (by (have hl16 : ([48, 49, 50, 51, 52, 53, 54, 55, 56, 57, 97, 98, 99, 100, 101, 102] : Tx).length = 16 := rfl); omega) hc.z) <| RunD.op (fun v rs => ∃ b, v = .slice (some ⟨b, 0, none⟩) 4 4 ∧ rs = [Res.row b 5 ([.int .u8 92, .int .u8 120, .int .u8 ((([48, 49, 50, 51, 52, 53, 54, 55, 56, 57, 97, 98, 99, 100, 101, 102] : Tx).getD ((((s.getD i 0).toNat / 16 : Nat) : Int).toNat) 0).toNat : Int), .int .u8 ((([48, 49, 50, 51, 52, 53, 54, 55, 56, 57, 97, 98, 99, 100, 101, 102] : Tx).getD ((((s.getD i 0).toNat % 16 : Nat) : Int).toNat) 0).toNat : Int)])]) tab4 8 (fun _ _ _ hc => zaG (z0 := [.int .u8 0, .int .u8 0, .int .u8 0, .int .u8 0]) hc.st zcU ty5 rfl rfl (by kernel_rfl) (.c (v := .int .u8 _) rfl (h := (.c (v := .int .u8 _) rfl (h := (.c (v := .int .u8 _) (hc.d 3 rfl rfl rfl rfl) (h := (.c (v := .int .u8 _) (hc.d 6 rfl rfl rfl rfl) (h := .nil)))))))) fun w b hst => ⟨[_], ⟨b, rfl, rfl⟩, hst⟩) ?_
   refine RunD.fin zaE tab4 hst rfl (fun f5 w R8 hs6 hd7 hr9 hst => ?_)
   obtain ⟨h28_, r0⟩ := hd7 0 28 rfl rfl
   obtain ⟨h29_, r1⟩ := hd7 1 29 rfl rfl
   obtain ⟨h30_, r2⟩ := hd7 2 30 rfl rfl
   obtain ⟨h31_, r3⟩ := hd7 3 31 rfl rfl
   obtain ⟨h32_, r4⟩ := hd7 4 32 rfl rfl
   obtain ⟨h33_, r5⟩ := hd7 5 33 rfl rfl
   obtain ⟨h34_, r6⟩ := hd7 6 34 rfl rfl
   obtain ⟨b35, h35_, r7⟩ := hd7 7 35 rfl rfl
   simp only [rg8, Fc, Fn, Mc, Mn, r0, r1, r2, r3, r4, r5, r6, r7, Na, An, Ca] at hst
   refine zaL (sl := [(0, str _), (4, .int .i64 _), (28, .slice _ _ _), (35, .slice _ _ _)]) ⟨(hs6 0 rfl).trans rfl, (hs6 4 rfl).trans rfl, h28_, h35_, trivial⟩ ?_
   clear hs6 hd7 hr9 tab4
   refine CN (zaW (news := [.int .u8 92, .int .u8 120, .int .u8 ((([48, 49, 50, 51, 52, 53, 54, 55, 56, 57, 97, 98, 99, 100, 101, 102] : Tx).getD ((((s.getD i 0).toNat / 16 : Nat) : Int).toNat) 0).toNat : Int), .int .u8 ((([48, 49, 50, 51, 52, 53, 54, 55, 56, 57, 97, 98, 99, 100, 101, 102] : Tx).getD ((((s.getD i 0).toNat % 16 : Nat) : Int).toNat) 0).toNat : Int)]) hst zcU ty5 rfl rfl .u1 rfl rfl rfl (zag (n := 4) (hst.objL Q0) _ rfl) rfl rfl Om fun w ao10 cp11 hst => ?_)
   replace hst := hst.drop .u1
   refine AL rfl <| NL <| zaI (id := 2) rfl <| zaj <| zak [(0, str _), (3, .slice _ _ _), (4, .int .i64 _)] E3 fun f => RG <| MI rfl <| CN <| zaC rfl rfl rfl zck <| AI rfl <| NL <| zax ?_
   rw [show (([48, 49, 50, 51, 52, 53, 54, 55, 56, 57, 97, 98, 99, 100, 101, 102] : Tx).getD ((((s.getD i 0).toNat / 16 : Nat) : Int).toNat) 0) = zhv ((s.getD i 0).toNat / 16) from zhu _ (by omega), show (([48, 49, 50, 51, 52, 53, 54, 55, 56, 57, 97, 98, 99, 100, 101, 102] : Tx).getD ((((s.getD i 0).toNat % 16 : Nat) : Int).toNat) 0) = zhv ((s.getD i 0).toNat % 16) from zhu _ (by omega)] at hst
   have hqs := zfR (s := s) (i := i) Om (zfs Om)
   exact ih1 ((i + 1, ao10, cp11)) _ w ((by (try dsimp only); omega)) (by (try dsimp only); rw [hqs, List.length_append, List.flatMap_append]; exact hst) (by (try dsimp only); omega) ⟨rfl, trivial⟩ ⟨(by (try dsimp only); rw [hqs, List.length_append]; rfl), (Vi (by (try dsimp only); omega)), trivial⟩
  refine TK (t := 19) rfl (Vb (Df g3)) <| zad (v := .int .u8 _) rfl <| TK (t := 19) rfl (Vb (Df g3)) <| zb1 rfl rfl <| CN <| zam (u := .bool _) (Vb (Df g3)) rfl <| AB rfl <| NL <| zaa rfl (fun g12 => ?_) (fun g12 => ?_)
  ·refine zaI (id := 3) rfl <| SQ <| RunD.start [] hst (bs := [0, 0, 2, 6, 0, 16, 48, 126, 255, 511]) (ds := [some 28, some 29, some 30, some 31, some 32, some 33, some 34, some 35, some 36, some 3]) ⟨Kr, Kr, Kr⟩ (fun tab13 => ?_)
   refine DO tab13 1 (fun f' L' w' hc=> zad (v := .slice _ _ _) (hc.old rfl rfl rfl) hc.z) <| DO tab13 2 (fun f' L' w' hc=> zad (v := .int .u8 _) (hc.old rfl rfl rfl) hc.z) <| DO tab13 3 (fun f' L' w' hc=> zk6 (c := (((s.getD i 0).toNat / 16 : Nat) : Int)) (hc.d 1 rfl rfl rfl rfl) rfl (by decide) (by decide) (by rw [show (2 : Int) ^ (4 : Int).toNat = 16 from rfl]; omega) hc.z) <| DO tab13 4 (fun f' L' w' hc=> za9 (s := [48, 49, 50, 51, 52, 53, 54, 55, 56, 57, 97, 98, 99, 100, 101, 102]) ty9 rfl (hc.d 2 rfl rfl rfl rfl) (by omega) (by (have hl16 : ([48, 49, 50, 51, 52, 53, 54, 55, 56, 57, 97, 98, 99, 100, 101, 102] : Tx).length = 16 := rfl); omega) hc.z) <| DO tab13 5 (fun f' L' w' hc=> zad (v := .int .u8 _) (hc.old rfl rfl rfl) hc.z) <| DO tab13 6 (fun f' L' w' hc=> zjj (m := (s.getD i 0).toNat) (hc.d 4 rfl rfl rfl rfl) rfl (by omega) (by omega) hc.z) <| DO tab13 7 (fun f' L' w' hc=> za9 (s := [48, 49, 50, 51, 52, 53, 54, 55, 56, 57, 97, 98, 99, 100, 101, 102]) ty9 rfl (hc.d 5 rfl rfl rfl rfl) (by omega) (by (have hl16 : ([48, 49, 50, 51, 52, 53, 54, 55, 56, 57, 97, 98, 99, 100, 101, 102] : Tx).length = 16 := rfl); omega) hc.z) <| RunD.op (fun v rs => ∃ b, v = .slice (some ⟨b, 0, none⟩) 4 4 ∧ rs = [Res.row b 5 ([.int .u8 92, .int .u8 120, .int .u8 ((([48, 49, 50, 51, 52, 53, 54, 55, 56, 57, 97, 98, 99, 100, 101, 102] : Tx).getD ((((s.getD i 0).toNat / 16 : Nat) : Int).toNat) 0).toNat : Int), .int .u8 ((([48, 49, 50, 51, 52, 53, 54, 55, 56, 57, 97, 98, 99, 100, 101, 102] : Tx).getD ((((s.getD i 0).toNat % 16 : Nat) : Int).toNat) 0).toNat : Int)])]) tab13 8 (fun _ _ _ hc => zaG (z0 := [.int .u8 0, .int .u8 0, .int .u8 0, .int .u8 0]) hc.st zcU ty5 rfl rfl (by kernel_rfl) (.c (v := .int .u8 _) rfl (h := (.c (v := .int .u8 _) rfl (h := (.c (v := .int .u8 _) (hc.d 3 rfl rfl rfl rfl) (h := (.c (v := .int .u8 _) (hc.d 6 rfl rfl rfl rfl) (h := .nil)))))))) fun w b hst => ⟨[_], ⟨b, rfl, rfl⟩, hst⟩) ?_
   refine RunD.fin zaE tab13 hst rfl (fun f14 w R17 hs15 hd16 hr18 hst => ?_)
   obtain ⟨h28_, r0⟩ := hd16 0 28 rfl rfl
   obtain ⟨h29_, r1⟩ := hd16 1 29 rfl rfl
   obtain ⟨h30_, r2⟩ := hd16 2 30 rfl rfl
   obtain ⟨h31_, r3⟩ := hd16 3 31 rfl rfl
   obtain ⟨h32_, r4⟩ := hd16 4 32 rfl rfl
   obtain ⟨h33_, r5⟩ := hd16 5 33 rfl rfl
   obtain ⟨h34_, r6⟩ := hd16 6 34 rfl rfl
   obtain ⟨b35, h35_, r7⟩ := hd16 7 35 rfl rfl
   simp only [rg8, Fc, Fn, Mc, Mn, r0, r1, r2, r3, r4, r5, r6, r7, Na, An, Ca] at hst
   refine zaL (sl := [(0, str _), (4, .int .i64 _), (28, .slice _ _ _), (35, .slice _ _ _)]) ⟨(hs15 0 rfl).trans rfl, (hs15 4 rfl).trans rfl, h28_, h35_, trivial⟩ ?_
   clear hs15 hd16 hr18 tab13
   refine CN (zaW (news := [.int .u8 92, .int .u8 120, .int .u8 ((([48, 49, 50, 51, 52, 53, 54, 55, 56, 57, 97, 98, 99, 100, 101, 102] : Tx).getD ((((s.getD i 0).toNat / 16 : Nat) : Int).toNat) 0).toNat : Int), .int .u8 ((([48, 49, 50, 51, 52, 53, 54, 55, 56, 57, 97, 98, 99, 100, 101, 102] : Tx).getD ((((s.getD i 0).toNat % 16 : Nat) : Int).toNat) 0).toNat : Int)]) hst zcU ty5 rfl rfl .u1 rfl rfl rfl (zag (n := 4) (hst.objL Q0) _ rfl) rfl rfl Om fun w ao19 cp20 hst => ?_)
   replace hst := hst.drop .u1
   refine AL rfl <| NL <| zaI (id := 2) rfl <| zaj <| zak [(0, str _), (3, .slice _ _ _), (4, .int .i64 _)] E3 fun f => RG <| MI rfl <| CN <| zaC rfl rfl rfl zck <| AI rfl <| NL <| zax ?_
   rw [show (([48, 49, 50, 51, 52, 53, 54, 55, 56, 57, 97, 98, 99, 100, 101, 102] : Tx).getD ((((s.getD i 0).toNat / 16 : Nat) : Int).toNat) 0) = zhv ((s.getD i 0).toNat / 16) from zhu _ (by omega), show (([48, 49, 50, 51, 52, 53, 54, 55, 56, 57, 97, 98, 99, 100, 101, 102] : Tx).getD ((((s.getD i 0).toNat % 16 : Nat) : Int).toNat) 0) = zhv ((s.getD i 0).toNat % 16) from zhu _ (by omega)] at hst
   have hqs := zfR (s := s) (i := i) Om (zfs Om)
   exact ih1 ((i + 1, ao19, cp20)) _ w ((by (try dsimp only); omega)) (by (try dsimp only); rw [hqs, List.length_append, List.flatMap_append]; exact hst) (by (try dsimp only); omega) ⟨rfl, trivial⟩ ⟨(by (try dsimp only); rw [hqs, List.length_append]; rfl), (Vi (by (try dsimp only); omega)), trivial⟩
  refine zah <| SQ <| SR <| MC rfl <| CN <| zai rfl rfl <| AB rfl <| NL <| zaa rfl (fun g21 => ?_) (fun g21 => ?_)
  ·refine zah <| zas (Vb (Dt g21)) <| zaI (id := 4) rfl <| RG <| ML rfl <| CN (zaG (z0 := [.int .u8 0]) hst zcU ty5 rfl rfl Kr (.c (v := .int .u8 _) rfl (h := .nil)) fun w b38 hst => ?_)
   refine CN (zaW (news := byC 92) hst zcU ty5 rfl rfl .u1 rfl rfl rfl (zag (n := 1) (hst.objL Q0) _ rfl) rfl rfl Om fun w ao22 cp23 hst => ?_)
   replace hst := hst.drop .u1
   refine AL rfl <| NL <| zaj <| zak [(0, str _), (3, .slice _ _ _), (4, .int .i64 _), (5, .int .u8 _)] E4 fun f => SR <| ML rfl <| MC rfl <| CN (zaG (z0 := [.int .u8 0]) hst zcU ty5 rfl rfl Kr (.c (v := .int .u8 _) rfl (h := .nil)) fun w b42 hst => ?_)
   refine CN (zaW (news := byC (s.getD ((i : Int).toNat) 0)) hst zcU ty5 rfl rfl .u1 rfl rfl rfl (zag (n := 1) (hst.objL Q0) _ rfl) rfl rfl Om fun w ao24 cp25 hst => ?_)
   replace hst := hst.drop .u1
   refine AL rfl <| NL <| zaI (id := 2) rfl <| zaj <| RG <| MI rfl <| CN <| zaC rfl rfl rfl zck <| AI rfl <| NL <| zax ?_
   have hqs := zfR (s := s) (i := i) Om (zft Om Om)
   exact ih1 ((i + 1, ao24, cp25)) _ w ((by (try dsimp only); omega)) (by (try dsimp only); rw [hqs, List.length_append, List.flatMap_append]; rw [List.append_assoc] at hst; exact hst) (by (try dsimp only); omega) ⟨rfl, trivial⟩ ⟨(by (try dsimp only); rw [hqs, List.length_append]; rfl), (Vi (by (try dsimp only); omega)), trivial⟩
  refine RG <| MC rfl <| CN <| zai rfl rfl <| AB rfl <| NL <| zak [(0, str _), (3, .slice _ _ _), (4, .int .i64 _), (5, .int .u8 _), (23, .bool _)] E5 fun f => zaa rfl (fun g26 => ?_) (fun g26 => ?_)
  ·refine zaI (id := 4) rfl <| RG <| ML rfl <| CN (zaG (z0 := [.int .u8 0]) hst zcU ty5 rfl rfl Kr (.c (v := .int .u8 _) rfl (h := .nil)) fun w b38 hst => ?_)
   refine CN (zaW (news := byC 92) hst zcU ty5 rfl rfl .u1 rfl rfl rfl (zag (n := 1) (hst.objL Q0) _ rfl) rfl rfl Om fun w ao27 cp28 hst => ?_)
   replace hst := hst.drop .u1
   refine AL rfl <| NL <| zaj <| SR <| ML rfl <| MC rfl <| CN (zaG (z0 := [.int .u8 0]) hst zcU ty5 rfl rfl Kr (.c (v := .int .u8 _) rfl (h := .nil)) fun w b42 hst => ?_)
   refine CN (zaW (news := byC (s.getD ((i : Int).toNat) 0)) hst zcU ty5 rfl rfl .u1 rfl rfl rfl (zag (n := 1) (hst.objL Q0) _ rfl) rfl rfl Om fun w ao29 cp30 hst => ?_)
   replace hst := hst.drop .u1
   refine AL rfl <| NL <| zaI (id := 2) rfl <| zaj <| RG <| MI rfl <| CN <| zaC rfl rfl rfl zck <| AI rfl <| NL <| zax ?_
   have hqs := zfR (s := s) (i := i) Om (zft Om Om)
   exact ih1 ((i + 1, ao29, cp30)) _ w ((by (try dsimp only); omega)) (by (try dsimp only); rw [hqs, List.length_append, List.flatMap_append]; rw [List.append_assoc] at hst; exact hst) (by (try dsimp only); omega) ⟨rfl, trivial⟩ ⟨(by (try dsimp only); rw [hqs, List.length_append]; rfl), (Vi (by (try dsimp only); omega)), trivial⟩
  refine zah <| zaI (id := 5) rfl <| SR <| ML rfl <| MC rfl <| CN (zaG (z0 := [.int .u8 0]) hst zcU ty5 rfl rfl Kr (.c (v := .int .u8 _) rfl (h := .nil)) fun w b42 hst => ?_)
  refine CN (zaW (news := byC (s.getD ((i : Int).toNat) 0)) hst zcU ty5 rfl rfl .u1 rfl rfl rfl (zag (n := 1) (hst.objL Q0) _ rfl) rfl rfl Om fun w ao31 cp32 hst => ?_)
  replace hst := hst.drop .u1
  refine AL rfl <| NL <| zaI (id := 2) rfl <| zaj <| RG <| MI rfl <| CN <| zaC rfl rfl rfl zck <| AI rfl <| NL <| zax ?_
  have hqs := zfR (s := s) (i := i) Om (zho Om Om)
  exact ih1 ((i + 1, ao31, cp32)) _ w ((by (try dsimp only); omega)) (by (try dsimp only); rw [hqs, List.length_append, List.flatMap_append]; exact hst) (by (try dsimp only); omega) ⟨rfl, trivial⟩ ⟨(by (try dsimp only); rw [hqs, List.length_append]; rfl), (Vi (by (try dsimp only); omega)), trivial⟩
 refine zaI (id := 0) rfl <| SR <| ML rfl <| CN (zaG (z0 := [.int .u8 0]) hst zcU ty5 rfl rfl Kr (.c (v := .int .u8 _) rfl (h := .nil)) fun w b45 hst => ?_)
 refine CN (zaW (news := byC 34) hst zcU ty5 rfl rfl .u1 rfl rfl rfl (zag (n := 1) (hst.objL Q0) _ rfl) rfl rfl Om fun w ao33 cp34 hst => ?_)
 replace hst := hst.drop .u1
 refine CN <| zeD (l := zcf s) zcU ty5 ty9 rfl (by rw [← zm0 (i := i) (by omega), List.length_append]; rfl) (Res.rs_of_sl (hst.hL _ Q0)) (by rw [← zm0 (i := i) (by omega), List.flatMap_append]; rfl) <| AS rfl <| NL <| zac Tryd.func73 rfl (TP (v := str _) rfl) ?_
 exact ⟨rfl, hst.pure⟩
end Go.SK
namespace Go.SK
open Go Go.Proofs
theorem zds : TyF Tryd.prog 43 (.struct (za8 Tryd.prog 43)) 3 32 [.int .u8 0, str [], .int .i64 0] := zaZ Kr Kr
theorem zmQ : zcz Tryd.prog 43 [(0, 1), (1, 1), (2, 1)] := ⟨za8 Tryd.prog 43, Kr, fun w => Kr⟩
theorem zb2 : TyF Tryd.prog 27 (.struct (za8 Tryd.prog 27)) 2 16 [.int .i64 0, .int .i64 0] := zaZ Kr Kr
theorem zmn : TyF Tryd.prog 39 (.slice 43) 1 24 [.slice none 0 0] := zaZ Kr Kr
theorem zhg : zcz Tryd.prog 27 [(0, 1), (1, 1)] := ⟨za8 Tryd.prog 27, Kr, fun w => Kr⟩
end Go.SK
namespace Go.SK
open Go Go.Proofs
theorem zqG : FldF Tryd.prog 43 0 0 := FldF.of (n := 0) Kr
theorem zb0 : FldF Tryd.prog 43 1 1 := FldF.of (n := 0) Kr
theorem ent73 : zaB Tryd.prog 73 := ⟨Tryd.f73, _, Tryd.func73, Kr, rfl⟩
theorem ent54 : zaB Tryd.prog 54 := ⟨Tryd.f54, _, Tryd.func54, Kr, rfl⟩
theorem ty119 : TyF Tryd.prog 119 (.slice 9) 1 24 [.slice none 0 0] := zaZ Kr Kr
theorem ent55 : zaB Tryd.prog 55 := ⟨Tryd.f55, _, Tryd.func55, Kr, rfl⟩
end Go.SK
namespace Go.SK
open Go Go.Proofs
open Go.RowKit
theorem zl4 (t : TokL) (w : World) (hG : LxG.holds w) (hl : t.text.length ≤ 1099511627776) : Ret Tryd.prog 54 #[.agg #[.int .u8 t.kind, str t.text, .int .i64 t.at_]] w (fun v w' => (∃ x, wrT t = some x ∧ v = .tuple #[str x, .bool true] ∧ St w NoM [] [] w') ∨ (wrT t = none ∧ ∃ y, v = .tuple #[str y, .bool false] ∧ St w NoM [] [] w')) := by
 refine zaq (args := [.agg #[.int .u8 t.kind, str t.text, .int .i64 t.at_]]) Tryd.func54 rfl rfl rfl ?_
 have hst : St w NoM [] [LxG] w := St.init_Ds (by simp only [List.forall_mem_cons]; exact ⟨hG, fun _ h => absurd h List.not_mem_nil⟩)
 refine SR <| CN <| zbf (v := zgT _ _ _) hst rfl rfl fun w b1 hst => AS rfl <| AB rfl <| NL <| SQ <| SR <| CN <| zab zqG rfl <| CN <| zae (v := .int .u8 _) ty5 rfl rfl (hst.cellL Q0 rfl) <| NL <| zan <| SQ <| RG ?_
 refine CN <| zai rfl rfl <| AB rfl <| NL <| zaa rfl (fun g1 => ?_) (fun g1 => ?_)
 ·refine SQ <| RunD.start [] hst (bs := [0, 1, 0, 4, 12, 28, 60, 124, 252, 508, 1020, 2044, 4092, 8188, 16380, 32764, 8188, 73724, 262140, 524284, 65535, 2097151]) (ds := [some 12, some 13, some 14, some 15, some 16, some 17, some 18, some 19, some 20, some 21, some 22, some 23, some 24, some 25, some 26, some 27, some 28, some 29, some 30, some 31, some 2, some 3]) ⟨Kr, Kr, Kr⟩ (fun tab2 => ?_)
  refine DO tab2 1 (fun f' L' w' hc=> zab zb0 (hc.old (v := Pp _ _) rfl rfl rfl) hc.z) <| DO tab2 2 (fun f' L' w' hc=> zae (v := str _) ty9 rfl (hc.d 0 rfl rfl rfl rfl) (hc.st.cellL (List.mem_append_right _ Q0) rfl) hc.z) <| DO tab2 3 (fun f' L' w' hc=> zab zb0 (hc.old (v := Pp _ _) rfl rfl rfl) hc.z) <| DO tab2 4 (fun f' L' w' hc=> zae (v := str _) ty9 rfl (hc.d 2 rfl rfl rfl rfl) (hc.st.cellL (List.mem_append_right _ Q0) rfl) hc.z) <| DO tab2 5 (fun f' L' w' hc=> zeA (hc.d 3 rfl rfl rfl rfl) rfl hc.z) <| DO tab2 6 (fun _ _ _ hc => zad (v := .bool _) (hc.d 4 rfl rfl rfl rfl) hc.z) <| zdV (j := 5) rfl (fun g3 => ?_) (fun g3 => ?_)
  ·have hpos : 0 < t.text.length := List.length_pos_iff.2 g3
   refine RunD.take (det _) tab2 7 rfl (fun f' L' w' hc=> (hc.d 5 rfl rfl rfl rfl).trans (Vb (Dt g3))) (fun f' L' w' hc=> zab zb0 (hc.old (v := Pp _ _) rfl rfl rfl) hc.z) <| RunD.take (det _) tab2 8 rfl (fun f' L' w' hc=> (hc.d 5 rfl rfl rfl rfl).trans (Vb (Dt g3))) (fun f' L' w' hc=> zae (v := str _) ty9 rfl (hc.d 6 rfl rfl rfl rfl) (hc.st.cellL (List.mem_append_right _ Q0) rfl) hc.z) <| RunD.take (det _) tab2 9 rfl (fun f' L' w' hc=> (hc.d 5 rfl rfl rfl rfl).trans (Vb (Dt g3))) (fun f' L' w' hc=> za9 ty9 (hc.d 7 rfl rfl rfl rfl) rfl Om Om hc.z) <| RunD.take (det _) tab2 10 rfl (fun f' L' w' hc=> (hc.d 5 rfl rfl rfl rfl).trans (Vb (Dt g3))) (fun f' L' w' hc=> zao (v1 := .int .u8 _) ent49 rfl (hc.d 8 rfl rfl rfl rfl) ((zgf _ _).mono fun v w hp => ⟨[], ⟨hp.1, rfl⟩, hc.st.keepc hp.2⟩)) <| RunD.take (det _) tab2 11 rfl (fun f' L' w' hc=> (hc.d 5 rfl rfl rfl rfl).trans (Vb (Dt g3))) (fun f' L' w' hc=> zai (hc.d 9 rfl rfl rfl rfl) rfl hc.z) <| DO tab2 12 (fun f' L' w' hc=> zar (u := .bool _) (((hc.d 5 rfl rfl rfl rfl)).trans (Vb (Dt g3))) (hc.d 10 rfl rfl rfl rfl) hc.z) <| DO tab2 13 (fun _ _ _ hc => zad (v := .bool _) (hc.d 11 rfl rfl rfl rfl) hc.z) <| zdV (j := 12) rfl (fun g4 => ?_) (fun g4 => ?_)
   ·refine RunD.take (det _) tab2 14 rfl (fun f' L' w' hc=> (hc.d 12 rfl rfl rfl rfl).trans (Vb (Dt g4))) (fun f' L' w' hc=> zab zb0 (hc.old (v := Pp _ _) rfl rfl rfl) hc.z) <| RunD.take (det _) tab2 15 rfl (fun f' L' w' hc=> (hc.d 12 rfl rfl rfl rfl).trans (Vb (Dt g4))) (fun f' L' w' hc=> zae (v := str _) ty9 rfl (hc.d 13 rfl rfl rfl rfl) (hc.st.cellL (List.mem_append_right _ Q0) rfl) hc.z) <| RunD.take (det _) tab2 16 rfl (fun f' L' w' hc=> (hc.d 12 rfl rfl rfl rfl).trans (Vb (Dt g4))) (fun f' L' w' hc=> zao (v1 := str _) ent64 rfl (hc.d 14 rfl rfl rfl rfl) ((zk3 t.text _ Om).mono fun v w hp => ⟨[], ⟨hp.1, rfl⟩, hc.st.keepc hp.2⟩)) <| RunD.take (det _) tab2 17 rfl (fun f' L' w' hc=> (hc.d 12 rfl rfl rfl rfl).trans (Vb (Dt g4))) (fun f' L' w' hc=> zab zb0 (hc.old (v := Pp _ _) rfl rfl rfl) hc.z) <| RunD.take (det _) tab2 18 rfl (fun f' L' w' hc=> (hc.d 12 rfl rfl rfl rfl).trans (Vb (Dt g4))) (fun f' L' w' hc=> zae (v := str _) ty9 rfl (hc.d 16 rfl rfl rfl rfl) (hc.st.cellL (List.mem_append_right _ Q0) rfl) hc.z) <| RunD.take (det _) tab2 19 rfl (fun f' L' w' hc=> (hc.d 12 rfl rfl rfl rfl).trans (Vb (Dt g4))) (fun f' L' w' hc=> zb7 (hc.d 15 rfl rfl rfl rfl) (hc.d 17 rfl rfl rfl rfl) hc.z) <| DO tab2 20 (fun f' L' w' hc=> zar (u := .bool _) (((hc.d 12 rfl rfl rfl rfl)).trans (Vb (Dt g4))) (hc.d 18 rfl rfl rfl rfl) hc.z) <| DO tab2 21 (fun _ _ _ hc => zaf (v := str _) (hc.d 1 rfl rfl rfl rfl) hc.z) <| RunD.fin zaE tab2 hst rfl (fun f5 w R8 hs6 hd7 hr9 hst => ?_)
    obtain ⟨h12_, r0⟩ := hd7 0 12 rfl rfl
    obtain ⟨h13_, r1⟩ := hd7 1 13 rfl rfl
    obtain ⟨h14_, r2⟩ := hd7 2 14 rfl rfl
    obtain ⟨h15_, r3⟩ := hd7 3 15 rfl rfl
    obtain ⟨h16_, r4⟩ := hd7 4 16 rfl rfl
    obtain ⟨h17_, r5⟩ := hd7 5 17 rfl rfl
    obtain ⟨h18_, r6⟩ := hd7 6 18 rfl rfl
    obtain ⟨h19_, r7⟩ := hd7 7 19 rfl rfl
    obtain ⟨h20_, r8⟩ := hd7 8 20 rfl rfl
    obtain ⟨h21_, r9⟩ := hd7 9 21 rfl rfl
    obtain ⟨h22_, r10⟩ := hd7 10 22 rfl rfl
    obtain ⟨h23_, r11⟩ := hd7 11 23 rfl rfl
    obtain ⟨h24_, r12⟩ := hd7 12 24 rfl rfl
    obtain ⟨h25_, r13⟩ := hd7 13 25 rfl rfl
    obtain ⟨h26_, r14⟩ := hd7 14 26 rfl rfl
    obtain ⟨h27_, r15⟩ := hd7 15 27 rfl rfl
    obtain ⟨h28_, r16⟩ := hd7 16 28 rfl rfl
    obtain ⟨h29_, r17⟩ := hd7 17 29 rfl rfl
    obtain ⟨h30_, r18⟩ := hd7 18 30 rfl rfl
    obtain ⟨h31_, r19⟩ := hd7 19 31 rfl rfl
    obtain ⟨h2_, r20⟩ := hd7 20 2 rfl rfl
    simp only [rg21, Fc, Fn, Mc, Mn, r0, r1, r2, r3, r4, r5, r6, r7, r8, r9, r10, r11, r12, r13, r14, r15, r16, r17, r18, r19, r20, Na, An, Ca] at hst
    refine zaL (sl := [(2, str _), (31, .bool _)]) ⟨h2_, h31_, trivial⟩ ?_
    clear hs6 hd7 hr9 tab2
    refine AB rfl <| NL <| zat Tryd.func54 rfl (TP (v := str _) rfl) (TP (v := .bool _) rfl) ?_
    by_cases hz : zbY t.text = t.text
    ·rw [Dt hz]; exact .inl ⟨_, zpR (by omega) g3 ((zkL _).1 g4) hz, rfl, hst.pure⟩
    ·rw [Df hz]; exact .inr ⟨zmA (by omega) (fun q => hz q.2.2), _, rfl, hst.pure⟩
   refine zaU tab2 14 rfl rfl (fun f' L' w' hc=> (hc.d 12 rfl rfl rfl rfl).trans (Vb (Df g4))) <| zaU tab2 15 rfl rfl (fun f' L' w' hc=> (hc.d 12 rfl rfl rfl rfl).trans (Vb (Df g4))) <| zaU tab2 16 rfl rfl (fun f' L' w' hc=> (hc.d 12 rfl rfl rfl rfl).trans (Vb (Df g4))) <| zaU tab2 17 rfl rfl (fun f' L' w' hc=> (hc.d 12 rfl rfl rfl rfl).trans (Vb (Df g4))) <| zaU tab2 18 rfl rfl (fun f' L' w' hc=> (hc.d 12 rfl rfl rfl rfl).trans (Vb (Df g4))) <| zaU tab2 19 rfl rfl (fun f' L' w' hc=> (hc.d 12 rfl rfl rfl rfl).trans (Vb (Df g4))) <| DO tab2 20 (fun f' L' w' hc=> zam (u := .bool _) (((hc.d 12 rfl rfl rfl rfl)).trans (Vb (Df g4))) rfl hc.z) <| DO tab2 21 (fun _ _ _ hc => zaf (v := str _) (hc.d 1 rfl rfl rfl rfl) hc.z) <| RunD.fin zaE tab2 hst rfl (fun f10 w R13 hs11 hd12 hr14 hst => ?_)
   obtain ⟨h12_, r0⟩ := hd12 0 12 rfl rfl
   obtain ⟨h13_, r1⟩ := hd12 1 13 rfl rfl
   obtain ⟨h14_, r2⟩ := hd12 2 14 rfl rfl
   obtain ⟨h15_, r3⟩ := hd12 3 15 rfl rfl
   obtain ⟨h16_, r4⟩ := hd12 4 16 rfl rfl
   obtain ⟨h17_, r5⟩ := hd12 5 17 rfl rfl
   obtain ⟨h18_, r6⟩ := hd12 6 18 rfl rfl
   obtain ⟨h19_, r7⟩ := hd12 7 19 rfl rfl
   obtain ⟨h20_, r8⟩ := hd12 8 20 rfl rfl
   obtain ⟨h21_, r9⟩ := hd12 9 21 rfl rfl
   obtain ⟨h22_, r10⟩ := hd12 10 22 rfl rfl
   obtain ⟨h23_, r11⟩ := hd12 11 23 rfl rfl
   obtain ⟨h24_, r12⟩ := hd12 12 24 rfl rfl
   obtain ⟨h25_, r13⟩ := hd12 13 25 rfl rfl
   obtain ⟨h26_, r14⟩ := hd12 14 26 rfl rfl
   obtain ⟨h27_, r15⟩ := hd12 15 27 rfl rfl
   obtain ⟨h28_, r16⟩ := hd12 16 28 rfl rfl
   obtain ⟨h29_, r17⟩ := hd12 17 29 rfl rfl
   obtain ⟨h30_, r18⟩ := hd12 18 30 rfl rfl
   obtain ⟨h31_, r19⟩ := hd12 19 31 rfl rfl
   obtain ⟨h2_, r20⟩ := hd12 20 2 rfl rfl
   simp only [rg21, Fc, Fn, Mc, Mn, r0, r1, r2, r3, r4, r5, r6, r7, r8, r9, r10, r11, r12, r13, r14, r15, r16, r17, r18, r19, r20, Na, An, Ca] at hst
   refine zaL (sl := [(2, str _), (31, .bool _)]) ⟨h2_, h31_, trivial⟩ ?_
   clear hs11 hd12 hr14 tab2
   refine AB rfl <| NL <| zat Tryd.func54 rfl (TP (v := str _) rfl) (TP (v := .bool _) rfl) ?_
   exact .inr ⟨zmA Om (fun q => g4 ((zkL _).2 q.2.1)), _, rfl, hst.pure⟩
  refine zaU tab2 7 rfl rfl (fun f' L' w' hc=> (hc.d 5 rfl rfl rfl rfl).trans (Vb (Df g3))) <| zaU tab2 8 rfl rfl (fun f' L' w' hc=> (hc.d 5 rfl rfl rfl rfl).trans (Vb (Df g3))) <| zaU tab2 9 rfl rfl (fun f' L' w' hc=> (hc.d 5 rfl rfl rfl rfl).trans (Vb (Df g3))) <| zaU tab2 10 rfl rfl (fun f' L' w' hc=> (hc.d 5 rfl rfl rfl rfl).trans (Vb (Df g3))) <| zaU tab2 11 rfl rfl (fun f' L' w' hc=> (hc.d 5 rfl rfl rfl rfl).trans (Vb (Df g3))) <| DO tab2 12 (fun f' L' w' hc=> zam (u := .bool _) (((hc.d 5 rfl rfl rfl rfl)).trans (Vb (Df g3))) rfl hc.z) <| DO tab2 13 (fun f' L' w' hc=> zad (v := .bool _) (hc.d 11 rfl rfl rfl rfl) hc.z) <| zaU tab2 14 rfl rfl (fun f' L' w' hc=> (hc.d 12 rfl rfl rfl rfl).trans (Vb (rfl : false = _))) <| zaU tab2 15 rfl rfl (fun f' L' w' hc=> (hc.d 12 rfl rfl rfl rfl).trans (Vb (rfl : false = _))) <| zaU tab2 16 rfl rfl (fun f' L' w' hc=> (hc.d 12 rfl rfl rfl rfl).trans (Vb (rfl : false = _))) <| zaU tab2 17 rfl rfl (fun f' L' w' hc=> (hc.d 12 rfl rfl rfl rfl).trans (Vb (rfl : false = _))) <| zaU tab2 18 rfl rfl (fun f' L' w' hc=> (hc.d 12 rfl rfl rfl rfl).trans (Vb (rfl : false = _))) <| zaU tab2 19 rfl rfl (fun f' L' w' hc=> (hc.d 12 rfl rfl rfl rfl).trans (Vb (rfl : false = _))) <| DO tab2 20 (fun f' L' w' hc=> zam (u := .bool _) (((hc.d 12 rfl rfl rfl rfl)).trans (Vb (rfl : false = _))) rfl hc.z) <| DO tab2 21 (fun _ _ _ hc => zaf (v := str _) (hc.d 1 rfl rfl rfl rfl) hc.z) ?_
  refine RunD.fin zaE tab2 hst rfl (fun f15 w R18 hs16 hd17 hr19 hst => ?_)
  obtain ⟨h12_, r0⟩ := hd17 0 12 rfl rfl
  obtain ⟨h13_, r1⟩ := hd17 1 13 rfl rfl
  obtain ⟨h14_, r2⟩ := hd17 2 14 rfl rfl
  obtain ⟨h15_, r3⟩ := hd17 3 15 rfl rfl
  obtain ⟨h16_, r4⟩ := hd17 4 16 rfl rfl
  obtain ⟨h17_, r5⟩ := hd17 5 17 rfl rfl
  obtain ⟨h18_, r6⟩ := hd17 6 18 rfl rfl
  obtain ⟨h19_, r7⟩ := hd17 7 19 rfl rfl
  obtain ⟨h20_, r8⟩ := hd17 8 20 rfl rfl
  obtain ⟨h21_, r9⟩ := hd17 9 21 rfl rfl
  obtain ⟨h22_, r10⟩ := hd17 10 22 rfl rfl
  obtain ⟨h23_, r11⟩ := hd17 11 23 rfl rfl
  obtain ⟨h24_, r12⟩ := hd17 12 24 rfl rfl
  obtain ⟨h25_, r13⟩ := hd17 13 25 rfl rfl
  obtain ⟨h26_, r14⟩ := hd17 14 26 rfl rfl
  obtain ⟨h27_, r15⟩ := hd17 15 27 rfl rfl
  obtain ⟨h28_, r16⟩ := hd17 16 28 rfl rfl
  obtain ⟨h29_, r17⟩ := hd17 17 29 rfl rfl
  obtain ⟨h30_, r18⟩ := hd17 18 30 rfl rfl
  obtain ⟨h31_, r19⟩ := hd17 19 31 rfl rfl
  obtain ⟨h2_, r20⟩ := hd17 20 2 rfl rfl
  simp only [rg21, Fc, Fn, Mc, Mn, r0, r1, r2, r3, r4, r5, r6, r7, r8, r9, r10, r11, r12, r13, r14, r15, r16, r17, r18, r19, r20, Na, An, Ca] at hst
  refine zaL (sl := [(2, str _), (31, .bool _)]) ⟨h2_, h31_, trivial⟩ ?_
  clear hs16 hd17 hr19 tab2
  refine AB rfl <| NL <| zat Tryd.func54 rfl (TP (v := str _) rfl) (TP (v := .bool _) rfl) ?_
  exact .inr ⟨zmA Om (fun q => g3 q.1), _, rfl, hst.pure⟩
 refine SR <| CN <| zai rfl rfl <| AB rfl <| NL <| zaa rfl (fun g20 => ?_) (fun g20 => ?_)
 ·refine SR <| CN <| zab zb0 rfl <| CN <| zae (v := str _) ty9 rfl rfl (hst.cellL Q0 rfl) <| CN <| zao (v1 := str _) zqI rfl rfl <| Ret.det (ze6 t.text _ (hst.hD _ Q0) Om) hst fun w hst => CN <| zad (v := .tuple #[.int .u32 _, .bool _]) rfl <| CN <| Ex (.int .u32 _) rfl rfl <| CN <| Ex (.bool _) rfl rfl <| AU rfl <| AB rfl <| NSR <| CN <| zab zb0 rfl <| CN (zae (v := str _) ty9 rfl rfl (hst.cellL Q0 rfl) ?_)
  refine CN <| zhT rfl rfl (by first | omega | (simp only [List.length_cons, List.length_nil, List.length_append]; omega) | (simp; omega)) <| MB rfl <| AS rfl <| AB rfl <| NL <| zat Tryd.func54 rfl (TP (v := str _) rfl) (TP (v := .bool _) rfl) ?_
  cases hz : (zaT t.text).isSome
  ·exact .inr ⟨wr2_no Om (f_no hz), _, rfl, hst.pure⟩
  ·exact .inl ⟨_, zpQ Om hz, rfl, hst.pure⟩
 refine SR <| CN <| zai rfl rfl <| AB rfl <| NL <| zaa rfl (fun g21 => ?_) (fun g21 => ?_)
 ·refine SR <| CN <| zab zb0 rfl <| CN <| zae (v := str _) ty9 rfl rfl (hst.cellL Q0 rfl) <| CN <| zao (v1 := str _) ent51 rfl rfl <| Ret.det (zi3 t.text _ (hst.hD _ Q0) Om) hst fun w hst => CN <| zad (v := .tuple #[.int .u32 _, .int .i64 _]) rfl <| CN <| Ex (.int .u32 _) rfl rfl <| CN <| Ex (.int .i64 _) rfl rfl <| AU rfl <| AI rfl <| NL <| zak [(1, Pp _ _), (7, .int .i64 _)] E2 fun f => SR <| CN (zab zb0 rfl ?_)
  refine CN <| zae (v := str _) ty9 rfl rfl (hst.cellL Q0 rfl) <| MI rfl <| CN <| zai rfl rfl <| AS rfl <| AB rfl <| NL <| zat Tryd.func54 rfl (TP (v := str _) rfl) (TP (v := .bool _) rfl) ?_
  by_cases hz : (za5 t.text).2 = 0
  ·rw [Dt hz]; exact .inl ⟨_, zpP (by omega) hz, rfl, hst.pure⟩
  ·rw [Df hz]; exact .inr ⟨wr3_no (by omega) hz, _, rfl, hst.pure⟩
 refine SR <| CN <| zai rfl rfl <| AB rfl <| NL <| zaa rfl (fun g22 => ?_) (fun g22 => ?_)
 ·refine SR <| CN <| zab zb0 rfl <| CN <| zae (v := str _) ty9 rfl rfl (hst.cellL Q0 rfl) <| CN <| zao (v1 := str _) ent73 rfl rfl <| Ret.det (zke t.text _ hl) hst fun w hst => AS rfl <| AB rfl <| NL <| zat Tryd.func54 rfl (TP (v := str _) rfl) (TP (v := .bool _) rfl) ?_
  exact .inl ⟨_, zmz Om, rfl, hst.pure⟩
 refine SR <| CN <| zai rfl rfl <| AB rfl <| NL <| zaa rfl (fun g23 => ?_) (fun g23 => ?_)
 ·refine SQ <| RunD.start [] hst (bs := [0, 1, 0, 4, 12, 3, 63]) (ds := [some 63, some 64, some 65, some 66, some 67, some 2, some 3]) ⟨Kr, Kr, Kr⟩ (fun tab24 => ?_)
  refine DO tab24 1 (fun f' L' w' hc=> zab zb0 (hc.old (v := Pp _ _) rfl rfl rfl) hc.z) <| DO tab24 2 (fun f' L' w' hc=> zae (v := str _) ty9 rfl (hc.d 0 rfl rfl rfl rfl) (hc.st.cellL (List.mem_append_right _ Q0) rfl) hc.z) <| DO tab24 3 (fun f' L' w' hc=> zab zb0 (hc.old (v := Pp _ _) rfl rfl rfl) hc.z) <| DO tab24 4 (fun f' L' w' hc=> zae (v := str _) ty9 rfl (hc.d 2 rfl rfl rfl rfl) (hc.st.cellL (List.mem_append_right _ Q0) rfl) hc.z) <| DO tab24 5 (fun f' L' w' hc=> zb7 (hc.d 3 rfl rfl rfl rfl) rfl hc.z) <| DO tab24 6 (fun _ _ _ hc => zaf (v := str _) (hc.d 1 rfl rfl rfl rfl) hc.z) <| RunD.fin zaE tab24 hst rfl (fun f25 w R28 hs26 hd27 hr29 hst => ?_)
  obtain ⟨h63_, r0⟩ := hd27 0 63 rfl rfl
  obtain ⟨h64_, r1⟩ := hd27 1 64 rfl rfl
  obtain ⟨h65_, r2⟩ := hd27 2 65 rfl rfl
  obtain ⟨h66_, r3⟩ := hd27 3 66 rfl rfl
  obtain ⟨h67_, r4⟩ := hd27 4 67 rfl rfl
  obtain ⟨h2_, r5⟩ := hd27 5 2 rfl rfl
  simp only [rg6, Fc, Fn, Mc, Mn, r0, r1, r2, r3, r4, r5, Na, An, Ca] at hst
  refine zaL (sl := [(2, str _), (67, .bool _)]) ⟨h2_, h67_, trivial⟩ ?_
  clear hs26 hd27 hr29 tab24
  refine AB rfl <| NL <| zat Tryd.func54 rfl (TP (v := str _) rfl) (TP (v := .bool _) rfl) ?_
  by_cases hz : t.text = [61]
  ·rw [Dt hz]; exact .inl ⟨_, zhW (by omega) hz, by rw [hz], hst.pure⟩
  ·rw [Df hz]; exact .inr ⟨wr5_no (by omega) hz, _, rfl, hst.pure⟩
 refine zah <| zaj <| SR <| AS rfl <| AB rfl <| NL <| zat Tryd.func54 rfl (TP (v := str _) rfl) (TP (v := .bool _) rfl) ?_
 exact .inr ⟨wr_no Om Om Om Om Om, _, rfl, hst.pure⟩
theorem zkd (l : List TokL) (ao : Option Addr) (cp : Nat) (w : World) (hG : LxG.holds w) (hA0 : (Res.rs ao l.length 3 (l.flatMap zfa)).holds w) (hl : l.length ≤ 1099511627776) (hw : wsz l ≤ 1099511627776) : Ret Tryd.prog 36 #[.slice ao l.length cp] w (fun v w' => v = .tuple #[str (wrS l), .int .i64 (wrE l)] ∧ St w NoM [] [] w') := by
 refine zaq (args := [.slice ao l.length cp]) Tryd.func36 rfl rfl rfl ?_
 have hst : St w NoM [] [LxG, Res.rs ao l.length 3 (l.flatMap zfa)] w := St.init_Ds (by simp only [List.forall_mem_cons]; exact ⟨hG, hA0, fun _ h => absurd h List.not_mem_nil⟩)
 refine SR <| AS rfl <| AI rfl <| NSR <| AL rfl <| NL <| SQ <| SR <| ML rfl <| CN <| zaK (rest := []) zmn rfl <| MI rfl ?_
 refine NL <| zan <| zaY ?_
 replace hst := hst.pushNil 9 1
 refine za4 [(9, .slice _ _ _), (10, .int .i64 _)] E2 (fun (qq : Nat × List Tx × Option Addr × Nat) => [(4, .slice qq.2.2.1 qq.2.1.length qq.2.2.2), (11, .int .i64 (qq.1 : Int))]) (fun (qq : Nat × List Tx × Option Addr × Nat) => [Res.sl qq.2.2.1 qq.2.1.length qq.2.2.2 9 1 (qq.2.1.flatMap strC)]) (fun (qq : Nat × List Tx × Option Addr × Nat) => wrI l qq.1 qq.2.1) (fun (qq : Nat × List Tx × Option Addr × Nat) => l.length - qq.1) ((0, [], none, 0)) hst (zmy l) E2 ?_
 intro ⟨i, o, aq, cq⟩ f w hst hJ ih1
 replace hst : St _ _ ([Res.sl aq o.length cq 9 1 (o.flatMap strC)] ++ []) _ _ := hst
 replace hJ : wrI l i o := hJ
 refine zbp (sl := [(4, .slice aq o.length cq), (11, .int .i64 (i : Int))]) E2 ?_
 have hjl := zkN o
 have hj1 := hJ.1
 have hj3 := hJ.2.2.1
 have hj2 := hJ.2.1
 refine SR <| CN <| zaR rfl rfl <| NL <| SQ <| zaa rfl (fun g2 => ?_) (fun g2 => ?_)
 ·refine zah <| SQ <| zan <| SR <| CN <| zaV zmn zds (hst.hD _ Q1) rfl rfl Om Om <| CN <| zaA (vs := zo4 _ _ _) zds rfl rfl rfl (Res.rs2_cells (m := 3) (hst.hD _ Q1) _ (zbr (g := zfa) (d := zaS) zkw _ _ Om)) <| CN <| zaz hst zds fun w b6 hst => CN (SO (v := zgT _ _ _) hst zds rfl rfl .u0 fun w hst => ?_)
  refine NSR <| CN (zaA (vs := zo4 _ _ _) zds rfl rfl rfl (zag (n := 3) (hst.objL Q0) _ rfl) ?_)
  have hzt := zoj hJ Om
  have htx : ((l.getD ((i : Int).toNat) zaS).text).length = ((l.getD i zaS).text).length := rfl
  refine CN (zao (v1 := zgT _ _ _) ent54 rfl rfl ((zl4 (l.getD ((i : Int).toNat) zaS) _ (hst.hD _ Q0) Om).mono fun v w hp => ?_))
  rcases hp with ⟨x, hx, rfl, hp⟩ | ⟨hx, y, rfl, hp⟩
  ·replace hst := hst.keepc hp
   clear hp
   have hxl := zpN hx
   refine CN <| zad (v := .tuple #[str _, .bool _]) rfl <| CN <| Ex (str _) rfl rfl <| CN <| Ex (.bool _) rfl rfl <| AS rfl <| AB rfl <| NL <| SQ <| SR <| MB rfl <| CN <| zbI rfl <| NL <| zal (Vb (congrArg not (rfl : true = _))) <| zah <| RG ?_
   refine ML rfl <| MS rfl <| CN (zaG (z0 := [str []]) hst ty119 ty9 rfl rfl Kr (.c (v := str _) rfl (h := .nil)) fun w b24 hst => ?_)
   refine CN (zaW (news := strC x) hst ty119 ty9 rfl rfl .u2 rfl rfl rfl (zag (n := 1) (hst.objL Q0) _ rfl) rfl rfl Om fun w ao3 cp4 hst => ?_)
   replace hst := hst.drop .u1
   refine AL rfl <| NL <| zaj <| RG <| CN <| zaC rfl rfl rfl zck <| MI rfl <| NL <| zax ?_
   replace hst := hst.pick (.cons .u0 .nil)
   exact ih1 ((i + 1, o ++ [x], ao3, cp4)) _ w ((by (try dsimp only); omega)) (by rw [List.length_append, List.flatMap_append]; exact hst) (zon hJ (by omega) hx) E2 ⟨(by simp only [List.length_append]; rfl), (Vi (by (try dsimp only); omega)), trivial⟩
  ·replace hst := hst.keepc hp
   clear hp
   refine CN <| zad (v := .tuple #[str _, .bool _]) rfl <| CN <| Ex (str _) rfl rfl <| CN <| Ex (.bool _) rfl rfl <| AS rfl <| AB rfl <| NL <| SQ <| SR <| MB rfl <| CN <| zbI rfl <| NL <| zas (Vb (congrArg not (rfl : false = _))) <| SQ <| RG ?_
   refine AS rfl <| AI rfl <| NL <| zat Tryd.func36 rfl (TP (v := str _) rfl) (TP (v := .int .i64 _) rfl) ?_
   have hwf := zmw (wrI_no hJ Om hx)
   rw [hwf.1, hwf.2]
   exact ⟨rfl, hst.pure⟩
 refine zaI (id := 0) rfl <| SR <| ML rfl <| CN <| zaF (v1 := .slice _ _ _) (v2 := str _) ent55 rfl rfl rfl <| Ret.det (zqA o _ _ [32] _ (Res.rs_of_sl (hst.hL _ Q0)) (Res.sl_cap (hst.hL _ Q0)) Om Om) hst fun w hst => AS rfl <| AI rfl <| NL <| zat Tryd.func36 rfl (TP (v := str _) rfl) (TP (v := .int .i64 _) rfl) ?_
 have hwf := zc9 (zqb hJ Om)
 rw [hwf.1, hwf.2]
 exact ⟨rfl, hst.pure⟩
end Go.SK
namespace Go.SK
open Go Go.Proofs
theorem zhz : FldF Tryd.prog 58 0 0 := FldF.of (n := 0) Kr
theorem zoq : TyF Tryd.prog 55 (.pointer 58) 1 8 [.pointer none] := zaZ Kr Kr
theorem ty146 : TyF Tryd.prog 146 .unsafePointer 1 8 [.pointer none] := zaZ Kr Kr
theorem ty58 : TyF Tryd.prog 58 (.struct (za8 Tryd.prog 58)) 2 32 [.pointer none, .slice none 0 0] := zaZ Kr Kr
theorem ent56 : zaB Tryd.prog 56 := ⟨Tryd.f56, _, Tryd.func56, Kr, rfl⟩
theorem zeY : FldF Tryd.prog 58 1 1 := FldF.of (n := 0) Kr
theorem ty104 : TyF Tryd.prog 104 (.pointer 5) 1 8 [.pointer none] := zaZ Kr Kr
end Go.SK
namespace Go.SK
open Go Go.Proofs
open Go.RowKit
theorem byteF5 : ByteF Tryd.prog 5 := by unfold ByteF; kernel_rfl
theorem zj9 (b : Nat) (x : Value) (w : World) (hB : (Res.row b 60 [.pointer none, x]).holds w) : Ret Tryd.prog 56 #[.pointer (some ⟨b, 0, none⟩)] w (fun v w' => v = .tuple #[] ∧ St w (Res.row b 60 [.pointer none, x]).foot [Res.row b 60 [.pointer (some ⟨b, 0, none⟩), x]] [] w') := by
 refine zaq (args := [.pointer (some ⟨b, 0, none⟩)]) Tryd.func56 rfl rfl rfl ?_
 have hst : St w (Res.row b 60 [.pointer none, x]).foot [Res.row b 60 [.pointer none, x]] [] w := St.enter1 hB (fun d hd => by cases hd) (fun d hd => by cases hd)
 refine SR <| MP rfl <| CN <| zay rfl <| CN <| zab zhz rfl <| CN <| zae (v := .pointer none) zoq rfl rfl (hst.cellL Q0 rfl) <| CN <| zml zoq rfl rfl <| NL <| zas (Vb (rfl : true = _)) <| RG <| MP rfl <| MP rfl <| CN <| zjb (B := 60) zoq ty146 ty58 (by decide) rfl (hst.hL _ Q0) (by simp) <| CN <| zjd (fn := Tryd.f75) Tryd.func75 (by kernel_rfl) rfl (by kernel_rfl) (by kernel_rfl) rfl rfl <| CN (zgz (B := 60) (m := 2) ty146 zoq ty58 rfl (hst.hL _ Q0) rfl (by kernel_rfl) ?_)
 refine CN <| zay rfl <| CN <| zab zhz rfl <| CN (SO (v := Pp _ _) hst zoq rfl rfl .u0 fun w hst => ?_)
 refine NL <| zdv Tryd.func56 rfl  ?_
 replace hst := hst.pick (.cons .u0 .nil)
 exact ⟨rfl, hst⟩
theorem zj8 (b : Nat) (x : Value) (w : World) (hB : (Res.row b 60 [.pointer (some ⟨b, 0, none⟩), x]).holds w) : Ret Tryd.prog 56 #[.pointer (some ⟨b, 0, none⟩)] w (fun v w' => v = .tuple #[] ∧ St w (Res.row b 60 [.pointer (some ⟨b, 0, none⟩), x]).foot [Res.row b 60 [.pointer (some ⟨b, 0, none⟩), x]] [] w') := by
 refine zaq (args := [.pointer (some ⟨b, 0, none⟩)]) Tryd.func56 rfl rfl rfl ?_
 have hst : St w (Res.row b 60 [.pointer (some ⟨b, 0, none⟩), x]).foot [Res.row b 60 [.pointer (some ⟨b, 0, none⟩), x]] [] w := St.enter1 hB (fun d hd => by cases hd) (fun d hd => by cases hd)
 refine SR <| MP rfl <| CN <| zay rfl <| CN <| zab zhz rfl <| CN <| zae (v := Pp _ _) zoq rfl rfl (hst.cellL Q0 rfl) <| CN <| zoe zoq rfl rfl <| NL <| zal (Vb (rfl : false = _)) <| SR <| MP rfl <| CN <| zay rfl <| CN <| zab zhz rfl <| CN (zae (v := Pp _ _) zoq rfl rfl (hst.cellL Q0 rfl) ?_)
 refine MP rfl <| CN <| zob zoq ty58 rfl rfl <| NL <| zal (Vb (rfl : false = _)) <| zah <| zdv Tryd.func56 rfl  ?_
 replace hst := hst.pick (.cons .u0 .nil)
 exact ⟨rfl, hst⟩
theorem zg3 (b : Nat) (x p : Value) (w : World) (hB : (Res.row b 60 [p, x]).holds w) (hp0 : p = .pointer none ∨ p = .pointer (some ⟨b, 0, none⟩)) : Ret Tryd.prog 56 #[.pointer (some ⟨b, 0, none⟩)] w (fun v w' => v = .tuple #[] ∧ St w (Res.row b 60 [p, x]).foot [Res.row b 60 [.pointer (some ⟨b, 0, none⟩), x]] [] w') := by
 rcases hp0 with rfl | rfl
 ·exact zj9 b x w hB
 ·exact zj8 b x w hB
theorem zfp (b : Nat) (p : Value) (ao : Option Addr) (cp : Nat) (l : Tx) (s : Tx) (w : World) (hR : (BdR 60 5 b p ao cp l).holds w) (hp0 : p = .pointer none ∨ p = .pointer (some ⟨b, 0, none⟩)) (hl : l.length + s.length ≤ 140737488355328) : Ret Tryd.prog 37 #[.pointer (some ⟨b, 0, none⟩), str s] w (fun v w' => ∃ ao' cp', v = .tuple #[.int .i64 (s.length : Int), .nilIface] ∧ St w (BdR 60 5 b p ao cp l).foot [BdR 60 5 b (.pointer (some ⟨b, 0, none⟩)) ao' cp' (l ++ s)] [] w') := by
 refine zaq (args := [.pointer (some ⟨b, 0, none⟩), str s]) Tryd.func37 rfl rfl rfl ?_
 have hst : St w (BdR 60 5 b p ao cp l).foot [BdR 60 5 b p ao cp l] [] w := St.enter1 hR (fun d hd => by cases hd) (fun d hd => by cases hd)
 replace hst : St _ _ [_, _] _ _ := hst.unpack
 refine SR <| AI rfl <| CN <| zaf (v := .nilIface) rfl <| NSR <| MP rfl <| CN (zao (v1 := Pp _ _) ent56 rfl rfl ((zg3 b _ p _ (hst.hL _ Q0) hp0).mono fun v w hp => ?_))
 obtain ⟨rfl, hp⟩ := hp
 replace hst : St _ _ (_ :: _) _ _ := hst.call1 hp
 clear hp
 refine NSR <| MP rfl <| MP rfl <| CN <| zay rfl <| CN <| zab zeY rfl <| CN <| zae (v := .slice _ _ _) zcU rfl rfl (hst.cellL Q0 rfl) <| MS rfl <| CN <| zhS hst zcU ty9 byteF5 .u1 rfl rfl Om fun w aoN cpN hst => CN <| zay rfl <| CN <| zab zeY rfl <| CN (SO (v := .slice _ _ _) hst zcU rfl rfl .u1 fun w hst => ?_)
 refine NSR <| MS rfl <| CN <| zbs (rest := []) ty9 rfl <| AI rfl <| CN <| zaf (v := .nilIface) rfl <| NL <| zat Tryd.func37 rfl (TP (v := .int .i64 _) rfl) (TP (v := .nilIface) rfl) ?_
 replace hst := hst.pick (.cons .u1 (.cons .u0 .nil))
 exact ⟨_, _, rfl, BdR.app hst⟩
theorem zgx (b : Nat) (p : Value) (ao : Option Addr) (cp : Nat) (l : Tx) (w : World) (hR : (BdR 60 5 b p ao cp l).holds w) (hp0 : p = .pointer none ∨ p = .pointer (some ⟨b, 0, none⟩)) (hl : l.length + 1 ≤ 140737488355328) : Ret Tryd.prog 38 #[.pointer (some ⟨b, 0, none⟩), .int .u8 10] w (fun v w' => ∃ ao' cp', v = .nilIface ∧ St w (BdR 60 5 b p ao cp l).foot [BdR 60 5 b (.pointer (some ⟨b, 0, none⟩)) ao' cp' (l ++ [10])] [] w') := by
 refine zaq (args := [.pointer (some ⟨b, 0, none⟩), .int .u8 10]) Tryd.func38 rfl rfl rfl ?_
 have hst : St w (BdR 60 5 b p ao cp l).foot [BdR 60 5 b p ao cp l] [] w := St.enter1 hR (fun d hd => by cases hd) (fun d hd => by cases hd)
 replace hst : St _ _ [_, _] _ _ := hst.unpack
 refine SR <| CN <| zaf (v := .nilIface) rfl <| NSR <| MP rfl <| CN (zao (v1 := Pp _ _) ent56 rfl rfl ((zg3 b _ p _ (hst.hL _ Q0) hp0).mono fun v w hp => ?_))
 obtain ⟨rfl, hp⟩ := hp
 replace hst : St _ _ (_ :: _) _ _ := hst.call1 hp
 clear hp
 refine NSR <| MP rfl <| MP rfl <| CN <| zay rfl <| CN <| zab zeY rfl <| CN <| zae (v := .slice _ _ _) zcU rfl rfl (hst.cellL Q0 rfl) <| MC rfl <| CN (zaG (z0 := [.int .u8 0]) hst zcU ty5 rfl rfl Kr (.c (v := .int .u8 _) rfl (h := .nil)) fun w b13 hst => ?_)
 refine CN (zaW (news := [.int .u8 10]) hst zcU ty5 rfl rfl .u2 rfl rfl rfl (zag (n := 1) (hst.objL Q0) _ rfl) rfl rfl Om fun w ao1 cp2 hst => ?_)
 replace hst := hst.drop .u1
 refine CN <| zay rfl <| CN <| zab zeY rfl <| CN (SO (v := .slice _ _ _) hst zcU rfl rfl .u1 fun w hst => ?_)
 refine NSR <| CN <| zaf (v := .nilIface) rfl <| NL <| zac Tryd.func38 rfl (TP (v := .nilIface) rfl) ?_
 replace hst := hst.pick (.cons .u1 (.cons .u0 .nil))
 exact ⟨_, _, rfl, BdR.app hst⟩
theorem zka (b : Nat) (p : Value) (ao : Option Addr) (cp : Nat) (l : Tx) (w : World) (hR : (BdR 60 5 b p ao cp l).holds w) (hl0 : l ≠ []) : Ret Tryd.prog 21 #[.pointer (some ⟨b, 0, none⟩)] w (fun v w' => v = str l ∧ St w (BdR 60 5 b p ao cp l).foot [] [] w') := by
 refine zaq (args := [.pointer (some ⟨b, 0, none⟩)]) Tryd.func21 rfl rfl rfl ?_
 have hst : St w (BdR 60 5 b p ao cp l).foot [BdR 60 5 b p ao cp l] [] w := St.enter1 hR (fun d hd => by cases hd) (fun d hd => by cases hd)
 replace hst : St _ _ [_, _] _ _ := hst.unpack
 have hlp : 0 < l.length := List.length_pos_iff.2 hl0
 have hcap : l.length ≤ cp := Res.sl_cap (hst.hL _ Q1)
 obtain ⟨gB, rfl⟩ := Res.sl_some (hst.hL _ Q1) hlp
 refine SR <| AS rfl <| NL <| SQ <| RunD.start [] hst (bs := [0, 1, 3, 7, 15, 0, 32, 96, 224, 480, 1023, 2047]) (ds := [some 3, some 4, some 5, some 6, some 7, some 8, some 9, some 10, some 11, some 12, some 13, some 2]) ⟨Kr, Kr, Kr⟩ (fun tab1 => ?_)
 refine DO tab1 1 (fun f' L' w' hc=> zad (v := Pp _ _) (hc.old rfl rfl rfl) hc.z) <| DO tab1 2 (fun f' L' w' hc=> zay (hc.d 0 rfl rfl rfl rfl) hc.z) <| DO tab1 3 (fun f' L' w' hc=> zab zeY (hc.d 1 rfl rfl rfl rfl) hc.z) <| DO tab1 4 (fun f' L' w' hc=> zae (v := .slice (some ⟨gB, 0, none⟩) l.length cp) zcU rfl (hc.d 2 rfl rfl rfl rfl) (hc.st.cellL (List.mem_append_right _ Q0) rfl) hc.z) <| DO tab1 5 (fun f' L' w' hc=> zgy (a := ⟨gB, 0, none⟩) (n := l.length) (c := cp) (hc.d 3 rfl rfl rfl rfl) Om hc.z) <| DO tab1 6 (fun f' L' w' hc=> zad (v := Pp _ _) (hc.old rfl rfl rfl) hc.z) <| DO tab1 7 (fun f' L' w' hc=> zay (hc.d 5 rfl rfl rfl rfl) hc.z) <| DO tab1 8 (fun f' L' w' hc=> zab zeY (hc.d 6 rfl rfl rfl rfl) hc.z) <| DO tab1 9 (fun f' L' w' hc=> zae (v := .slice (some ⟨gB, 0, none⟩) l.length cp) zcU rfl (hc.d 7 rfl rfl rfl rfl) (hc.st.cellL (List.mem_append_right _ Q0) rfl) hc.z) <| DO tab1 10 (fun _ _ _ hc => zaK (rest := []) zcU (hc.d 8 rfl rfl rfl rfl) hc.z) <| RunD.fin zaE tab1 hst rfl (fun f2 w R5 hs3 hd4 hr6 hst => ?_)
 obtain ⟨h3_, r0⟩ := hd4 0 3 rfl rfl
 obtain ⟨h4_, r1⟩ := hd4 1 4 rfl rfl
 obtain ⟨h5_, r2⟩ := hd4 2 5 rfl rfl
 obtain ⟨h6_, r3⟩ := hd4 3 6 rfl rfl
 obtain ⟨h7_, r4⟩ := hd4 4 7 rfl rfl
 obtain ⟨h8_, r5⟩ := hd4 5 8 rfl rfl
 obtain ⟨h9_, r6⟩ := hd4 6 9 rfl rfl
 obtain ⟨h10_, r7⟩ := hd4 7 10 rfl rfl
 obtain ⟨h11_, r8⟩ := hd4 8 11 rfl rfl
 obtain ⟨h12_, r9⟩ := hd4 9 12 rfl rfl
 simp only [rg10, Fc, Fn, Mc, Mn, r0, r1, r2, r3, r4, r5, r6, r7, r8, r9, Na, An, Ca] at hst
 refine zaL (sl := [(7, Pp _ _), (12, .int .i64 _)]) ⟨h7_, h12_, trivial⟩ ?_
 clear hs3 hd4 hr6 tab1
 refine CN <| zhQ (l := l) hst .u1 rfl rfl ty104 Kr hl0 rfl rfl rfl fun w hst => AS rfl <| NL <| zac Tryd.func21 rfl (TP (v := str _) rfl) ?_
 replace hst := hst.pick .nil
 exact ⟨rfl, hst⟩
end Go.SK
namespace Go.SK
open Go Go.Proofs
theorem ent80 : zaB Tryd.prog 80 := ⟨Tryd.f80, _, Tryd.func80, Kr, rfl⟩
theorem ent81 : zaB Tryd.prog 81 := ⟨Tryd.f81, _, Tryd.func81, Kr, rfl⟩
theorem ent82 : zaB Tryd.prog 82 := ⟨Tryd.f82, _, Tryd.func82, Kr, rfl⟩
theorem zdE : TyF Tryd.prog 124 (.array 6 9) 6 96 [str [], str [], str [], str [], str [], str []] := zaZ Kr Kr
theorem ty21 : TyF Tryd.prog 21 (.int .i32) 1 4 [.int .i32 0] := zaZ Kr Kr
end Go.SK
namespace Go.SK
open Go Go.Proofs
open Go.RowKit
theorem zl9 (op : Int) (w : World) : Ret Tryd.prog 80 #[.int .u16 op] w (fun v w' => v = str (zgt znv op) ∧ St w NoM [] [] w') := by
 refine zaq (args := [.int .u16 op]) Tryd.func80 rfl rfl rfl ?_
 have hst := St.init w
 refine SR <| AS rfl <| NL <| SQ <| SR <| MH rfl <| NL <| zan <| SR <| CN <| zai rfl rfl <| AB rfl <| NL ?_
 refine zaa rfl (fun g1 => ?_) (fun g1 => ?_)
 ·refine SR <| AS rfl <| NL <| zac Tryd.func80 rfl (TP (v := str _) rfl) ?_
  subst g1
  exact ⟨congrArg str (by decide +kernel), hst.pure⟩
 refine SR <| CN <| zai rfl rfl <| AB rfl <| NL <| zaa rfl (fun g2 => ?_) (fun g2 => ?_)
 ·refine SR <| AS rfl <| NL <| zac Tryd.func80 rfl (TP (v := str _) rfl) ?_
  subst g2
  exact ⟨congrArg str (by decide +kernel), hst.pure⟩
 refine SR <| CN <| zai rfl rfl <| AB rfl <| NL <| zaa rfl (fun g3 => ?_) (fun g3 => ?_)
 ·refine SR <| AS rfl <| NL <| zac Tryd.func80 rfl (TP (v := str _) rfl) ?_
  subst g3
  exact ⟨congrArg str (by decide +kernel), hst.pure⟩
 refine SR <| CN <| zai rfl rfl <| AB rfl <| NL <| zaa rfl (fun g4 => ?_) (fun g4 => ?_)
 ·refine SR <| AS rfl <| NL <| zac Tryd.func80 rfl (TP (v := str _) rfl) ?_
  subst g4
  exact ⟨congrArg str (by decide +kernel), hst.pure⟩
 refine SR <| CN <| zai rfl rfl <| AB rfl <| NL <| zaa rfl (fun g5 => ?_) (fun g5 => ?_)
 ·refine SR <| AS rfl <| NL <| zac Tryd.func80 rfl (TP (v := str _) rfl) ?_
  subst g5
  exact ⟨congrArg str (by decide +kernel), hst.pure⟩
 refine SR <| CN <| zai rfl rfl <| AB rfl <| NL <| zaa rfl (fun g6 => ?_) (fun g6 => ?_)
 ·refine SR <| AS rfl <| NL <| zac Tryd.func80 rfl (TP (v := str _) rfl) ?_
  subst g6
  exact ⟨congrArg str (by decide +kernel), hst.pure⟩
 refine SR <| CN <| zai rfl rfl <| AB rfl <| NL <| zaa rfl (fun g7 => ?_) (fun g7 => ?_)
 ·refine SR <| AS rfl <| NL <| zac Tryd.func80 rfl (TP (v := str _) rfl) ?_
  subst g7
  exact ⟨congrArg str (by decide +kernel), hst.pure⟩
 refine SR <| CN <| zai rfl rfl <| AB rfl <| NL <| zaa rfl (fun g8 => ?_) (fun g8 => ?_)
 ·refine SR <| AS rfl <| NL <| zac Tryd.func80 rfl (TP (v := str _) rfl) ?_
  subst g8
  exact ⟨congrArg str (by decide +kernel), hst.pure⟩
 refine SR <| CN <| zai rfl rfl <| AB rfl <| NL <| zak [(3, .int .u16 _), (20, .bool _)] E2 fun f => zaa rfl (fun g9 => ?_) (fun g9 => ?_)
 ·refine SR <| AS rfl <| NL <| zac Tryd.func80 rfl (TP (v := str _) rfl) ?_
  subst g9
  exact ⟨congrArg str (by decide +kernel), hst.pure⟩
 refine SR <| CN <| zai rfl rfl <| AB rfl <| NL <| zaa rfl (fun g10 => ?_) (fun g10 => ?_)
 ·refine SR <| AS rfl <| NL <| zac Tryd.func80 rfl (TP (v := str _) rfl) ?_
  subst g10
  exact ⟨congrArg str (by decide +kernel), hst.pure⟩
 refine SR <| CN <| zai rfl rfl <| AB rfl <| NL <| zaa rfl (fun g11 => ?_) (fun g11 => ?_)
 ·refine SR <| AS rfl <| NL <| zac Tryd.func80 rfl (TP (v := str _) rfl) ?_
  subst g11
  exact ⟨congrArg str (by decide +kernel), hst.pure⟩
 refine SR <| CN <| zai rfl rfl <| AB rfl <| NL <| zaa rfl (fun g12 => ?_) (fun g12 => ?_)
 ·refine SR <| AS rfl <| NL <| zac Tryd.func80 rfl (TP (v := str _) rfl) ?_
  subst g12
  exact ⟨congrArg str (by decide +kernel), hst.pure⟩
 refine SR <| CN <| zai rfl rfl <| AB rfl <| NL <| zaa rfl (fun g13 => ?_) (fun g13 => ?_)
 ·refine SR <| AS rfl <| NL <| zac Tryd.func80 rfl (TP (v := str _) rfl) ?_
  subst g13
  exact ⟨congrArg str (by decide +kernel), hst.pure⟩
 refine SR <| CN <| zai rfl rfl <| AB rfl <| NL <| zaa rfl (fun g14 => ?_) (fun g14 => ?_)
 ·refine SR <| AS rfl <| NL <| zac Tryd.func80 rfl (TP (v := str _) rfl) ?_
  subst g14
  exact ⟨congrArg str (by decide +kernel), hst.pure⟩
 refine SR <| CN <| zai rfl rfl <| AB rfl <| NL <| zaa rfl (fun g15 => ?_) (fun g15 => ?_)
 ·refine SR <| AS rfl <| NL <| zac Tryd.func80 rfl (TP (v := str _) rfl) ?_
  subst g15
  exact ⟨congrArg str (by decide +kernel), hst.pure⟩
 refine SR <| CN <| zai rfl rfl <| AB rfl <| NL <| zaa rfl (fun g16 => ?_) (fun g16 => ?_)
 ·refine SR <| AS rfl <| NL <| zac Tryd.func80 rfl (TP (v := str _) rfl) ?_
  subst g16
  exact ⟨congrArg str (by decide +kernel), hst.pure⟩
 refine SR <| CN <| zai rfl rfl <| AB rfl <| NL <| zaa rfl (fun g17 => ?_) (fun g17 => ?_)
 ·refine SR <| AS rfl <| NL <| zac Tryd.func80 rfl (TP (v := str _) rfl) ?_
  subst g17
  exact ⟨congrArg str (by decide +kernel), hst.pure⟩
 refine SR <| CN <| zai rfl rfl <| AB rfl <| NL <| zaa rfl (fun g18 => ?_) (fun g18 => ?_)
 ·refine SR <| AS rfl <| NL <| zac Tryd.func80 rfl (TP (v := str _) rfl) ?_
  subst g18
  exact ⟨congrArg str (by decide +kernel), hst.pure⟩
 refine SR <| CN <| zai rfl rfl <| AB rfl <| NL <| zak [(3, .int .u16 _), (40, .bool _)] E2 fun f => zaa rfl (fun g19 => ?_) (fun g19 => ?_)
 ·refine SR <| AS rfl <| NL <| zac Tryd.func80 rfl (TP (v := str _) rfl) ?_
  subst g19
  exact ⟨congrArg str (by decide +kernel), hst.pure⟩
 refine SR <| CN <| zai rfl rfl <| AB rfl <| NL <| zaa rfl (fun g20 => ?_) (fun g20 => ?_)
 ·refine SR <| AS rfl <| NL <| zac Tryd.func80 rfl (TP (v := str _) rfl) ?_
  subst g20
  exact ⟨congrArg str (by decide +kernel), hst.pure⟩
 refine SR <| CN <| zai rfl rfl <| AB rfl <| NL <| zaa rfl (fun g21 => ?_) (fun g21 => ?_)
 ·refine SR <| AS rfl <| NL <| zac Tryd.func80 rfl (TP (v := str _) rfl) ?_
  subst g21
  exact ⟨congrArg str (by decide +kernel), hst.pure⟩
 refine SR <| CN <| zai rfl rfl <| AB rfl <| NL <| zaa rfl (fun g22 => ?_) (fun g22 => ?_)
 ·refine SR <| AS rfl <| NL <| zac Tryd.func80 rfl (TP (v := str _) rfl) ?_
  subst g22
  exact ⟨congrArg str (by decide +kernel), hst.pure⟩
 refine SR <| CN <| zai rfl rfl <| AB rfl <| NL <| zaa rfl (fun g23 => ?_) (fun g23 => ?_)
 ·refine SR <| AS rfl <| NL <| zac Tryd.func80 rfl (TP (v := str _) rfl) ?_
  subst g23
  exact ⟨congrArg str (by decide +kernel), hst.pure⟩
 refine SR <| CN <| zai rfl rfl <| AB rfl <| NL <| zaa rfl (fun g24 => ?_) (fun g24 => ?_)
 ·refine SR <| AS rfl <| NL <| zac Tryd.func80 rfl (TP (v := str _) rfl) ?_
  subst g24
  exact ⟨congrArg str (by decide +kernel), hst.pure⟩
 refine SR <| CN <| zai rfl rfl <| AB rfl <| NL <| zaa rfl (fun g25 => ?_) (fun g25 => ?_)
 ·refine SR <| AS rfl <| NL <| zac Tryd.func80 rfl (TP (v := str _) rfl) ?_
  subst g25
  exact ⟨congrArg str (by decide +kernel), hst.pure⟩
 refine SR <| CN <| zai rfl rfl <| AB rfl <| NL <| zaa rfl (fun g26 => ?_) (fun g26 => ?_)
 ·refine SR <| AS rfl <| NL <| zac Tryd.func80 rfl (TP (v := str _) rfl) ?_
  subst g26
  exact ⟨congrArg str (by decide +kernel), hst.pure⟩
 refine SR <| CN <| zai rfl rfl <| AB rfl <| NL <| zaa rfl (fun g27 => ?_) (fun g27 => ?_)
 ·refine SR <| AS rfl <| NL <| zac Tryd.func80 rfl (TP (v := str _) rfl) ?_
  subst g27
  exact ⟨congrArg str (by decide +kernel), hst.pure⟩
 refine SR <| CN <| zai rfl rfl <| AB rfl <| NL <| zaa rfl (fun g28 => ?_) (fun g28 => ?_)
 ·refine SR <| AS rfl <| NL <| zac Tryd.func80 rfl (TP (v := str _) rfl) ?_
  subst g28
  exact ⟨congrArg str (by decide +kernel), hst.pure⟩
 refine SR <| CN <| zai rfl rfl <| AB rfl <| NL <| zak [(3, .int .u16 _), (60, .bool _)] E2 fun f => zaa rfl (fun g29 => ?_) (fun g29 => ?_)
 ·refine SR <| AS rfl <| NL <| zac Tryd.func80 rfl (TP (v := str _) rfl) ?_
  subst g29
  exact ⟨congrArg str (by decide +kernel), hst.pure⟩
 refine SR <| CN <| zai rfl rfl <| AB rfl <| NL <| zaa rfl (fun g30 => ?_) (fun g30 => ?_)
 ·refine SR <| AS rfl <| NL <| zac Tryd.func80 rfl (TP (v := str _) rfl) ?_
  subst g30
  exact ⟨congrArg str (by decide +kernel), hst.pure⟩
 refine SR <| CN <| zai rfl rfl <| AB rfl <| NL <| zaa rfl (fun g31 => ?_) (fun g31 => ?_)
 ·refine SR <| AS rfl <| NL <| zac Tryd.func80 rfl (TP (v := str _) rfl) ?_
  subst g31
  exact ⟨congrArg str (by decide +kernel), hst.pure⟩
 refine zah <| zaj <| SR <| AS rfl <| NL <| zac Tryd.func80 rfl (TP (v := str _) rfl) ?_
 exact ⟨congrArg str (zcK (by simp only [znv, List.forall_mem_cons]; exact ⟨g1, g2, g3, g4, g5, g6, g7, g8, g9, g10, g11, g12, g13, g14, g15, g16, g17, g18, g19, g20, g21, g22, g23, g24, g25, g26, g27, g28, g29, g30, g31, fun _ h => absurd h List.not_mem_nil⟩)).symm, hst.pure⟩
theorem zkg (op : Int) (w : World) : Ret Tryd.prog 81 #[.int .u16 op] w (fun v w' => v = str (zgt zjA op) ∧ St w NoM [] [] w') := by
 refine zaq (args := [.int .u16 op]) Tryd.func81 rfl rfl rfl ?_
 have hst := St.init w
 refine SR <| AS rfl <| NL <| SQ <| SR <| MH rfl <| NL <| zan <| SR <| CN <| zai rfl rfl <| AB rfl <| NL ?_
 refine zaa rfl (fun g1 => ?_) (fun g1 => ?_)
 ·refine SR <| AS rfl <| NL <| zac Tryd.func81 rfl (TP (v := str _) rfl) ?_
  subst g1
  exact ⟨congrArg str (by decide +kernel), hst.pure⟩
 refine SR <| CN <| zai rfl rfl <| AB rfl <| NL <| zaa rfl (fun g2 => ?_) (fun g2 => ?_)
 ·refine SR <| AS rfl <| NL <| zac Tryd.func81 rfl (TP (v := str _) rfl) ?_
  subst g2
  exact ⟨congrArg str (by decide +kernel), hst.pure⟩
 refine SR <| CN <| zai rfl rfl <| AB rfl <| NL <| zaa rfl (fun g3 => ?_) (fun g3 => ?_)
 ·refine SR <| AS rfl <| NL <| zac Tryd.func81 rfl (TP (v := str _) rfl) ?_
  subst g3
  exact ⟨congrArg str (by decide +kernel), hst.pure⟩
 refine SR <| CN <| zai rfl rfl <| AB rfl <| NL <| zaa rfl (fun g4 => ?_) (fun g4 => ?_)
 ·refine SR <| AS rfl <| NL <| zac Tryd.func81 rfl (TP (v := str _) rfl) ?_
  subst g4
  exact ⟨congrArg str (by decide +kernel), hst.pure⟩
 refine SR <| CN <| zai rfl rfl <| AB rfl <| NL <| zaa rfl (fun g5 => ?_) (fun g5 => ?_)
 ·refine SR <| AS rfl <| NL <| zac Tryd.func81 rfl (TP (v := str _) rfl) ?_
  subst g5
  exact ⟨congrArg str (by decide +kernel), hst.pure⟩
 refine SR <| CN <| zai rfl rfl <| AB rfl <| NL <| zaa rfl (fun g6 => ?_) (fun g6 => ?_)
 ·refine SR <| AS rfl <| NL <| zac Tryd.func81 rfl (TP (v := str _) rfl) ?_
  subst g6
  exact ⟨congrArg str (by decide +kernel), hst.pure⟩
 refine SR <| CN <| zai rfl rfl <| AB rfl <| NL <| zaa rfl (fun g7 => ?_) (fun g7 => ?_)
 ·refine SR <| AS rfl <| NL <| zac Tryd.func81 rfl (TP (v := str _) rfl) ?_
  subst g7
  exact ⟨congrArg str (by decide +kernel), hst.pure⟩
 refine SR <| CN <| zai rfl rfl <| AB rfl <| NL <| zaa rfl (fun g8 => ?_) (fun g8 => ?_)
 ·refine SR <| AS rfl <| NL <| zac Tryd.func81 rfl (TP (v := str _) rfl) ?_
  subst g8
  exact ⟨congrArg str (by decide +kernel), hst.pure⟩
 refine SR <| CN <| zai rfl rfl <| AB rfl <| NL <| zak [(3, .int .u16 _), (20, .bool _)] E2 fun f => zaa rfl (fun g9 => ?_) (fun g9 => ?_)
 ·refine SR <| AS rfl <| NL <| zac Tryd.func81 rfl (TP (v := str _) rfl) ?_
  subst g9
  exact ⟨congrArg str (by decide +kernel), hst.pure⟩
 refine SR <| CN <| zai rfl rfl <| AB rfl <| NL <| zaa rfl (fun g10 => ?_) (fun g10 => ?_)
 ·refine SR <| AS rfl <| NL <| zac Tryd.func81 rfl (TP (v := str _) rfl) ?_
  subst g10
  exact ⟨congrArg str (by decide +kernel), hst.pure⟩
 refine SR <| CN <| zai rfl rfl <| AB rfl <| NL <| zaa rfl (fun g11 => ?_) (fun g11 => ?_)
 ·refine SR <| AS rfl <| NL <| zac Tryd.func81 rfl (TP (v := str _) rfl) ?_
  subst g11
  exact ⟨congrArg str (by decide +kernel), hst.pure⟩
 refine SR <| CN <| zai rfl rfl <| AB rfl <| NL <| zaa rfl (fun g12 => ?_) (fun g12 => ?_)
 ·refine SR <| AS rfl <| NL <| zac Tryd.func81 rfl (TP (v := str _) rfl) ?_
  subst g12
  exact ⟨congrArg str (by decide +kernel), hst.pure⟩
 refine SR <| CN <| zai rfl rfl <| AB rfl <| NL <| zaa rfl (fun g13 => ?_) (fun g13 => ?_)
 ·refine SR <| AS rfl <| NL <| zac Tryd.func81 rfl (TP (v := str _) rfl) ?_
  subst g13
  exact ⟨congrArg str (by decide +kernel), hst.pure⟩
 refine SR <| CN <| zai rfl rfl <| AB rfl <| NL <| zaa rfl (fun g14 => ?_) (fun g14 => ?_)
 ·refine SR <| AS rfl <| NL <| zac Tryd.func81 rfl (TP (v := str _) rfl) ?_
  subst g14
  exact ⟨congrArg str (by decide +kernel), hst.pure⟩
 refine SR <| CN <| zai rfl rfl <| AB rfl <| NL <| zaa rfl (fun g15 => ?_) (fun g15 => ?_)
 ·refine SR <| AS rfl <| NL <| zac Tryd.func81 rfl (TP (v := str _) rfl) ?_
  subst g15
  exact ⟨congrArg str (by decide +kernel), hst.pure⟩
 refine SR <| CN <| zai rfl rfl <| AB rfl <| NL <| zaa rfl (fun g16 => ?_) (fun g16 => ?_)
 ·refine SR <| AS rfl <| NL <| zac Tryd.func81 rfl (TP (v := str _) rfl) ?_
  subst g16
  exact ⟨congrArg str (by decide +kernel), hst.pure⟩
 refine SR <| CN <| zai rfl rfl <| AB rfl <| NL <| zaa rfl (fun g17 => ?_) (fun g17 => ?_)
 ·refine SR <| AS rfl <| NL <| zac Tryd.func81 rfl (TP (v := str _) rfl) ?_
  subst g17
  exact ⟨congrArg str (by decide +kernel), hst.pure⟩
 refine SR <| CN <| zai rfl rfl <| AB rfl <| NL <| zaa rfl (fun g18 => ?_) (fun g18 => ?_)
 ·refine SR <| AS rfl <| NL <| zac Tryd.func81 rfl (TP (v := str _) rfl) ?_
  subst g18
  exact ⟨congrArg str (by decide +kernel), hst.pure⟩
 refine SR <| CN <| zai rfl rfl <| AB rfl <| NL <| zak [(3, .int .u16 _), (40, .bool _)] E2 fun f => zaa rfl (fun g19 => ?_) (fun g19 => ?_)
 ·refine SR <| AS rfl <| NL <| zac Tryd.func81 rfl (TP (v := str _) rfl) ?_
  subst g19
  exact ⟨congrArg str (by decide +kernel), hst.pure⟩
 refine SR <| CN <| zai rfl rfl <| AB rfl <| NL <| zaa rfl (fun g20 => ?_) (fun g20 => ?_)
 ·refine SR <| AS rfl <| NL <| zac Tryd.func81 rfl (TP (v := str _) rfl) ?_
  subst g20
  exact ⟨congrArg str (by decide +kernel), hst.pure⟩
 refine SR <| CN <| zai rfl rfl <| AB rfl <| NL <| zaa rfl (fun g21 => ?_) (fun g21 => ?_)
 ·refine SR <| AS rfl <| NL <| zac Tryd.func81 rfl (TP (v := str _) rfl) ?_
  subst g21
  exact ⟨congrArg str (by decide +kernel), hst.pure⟩
 refine SR <| CN <| zai rfl rfl <| AB rfl <| NL <| zaa rfl (fun g22 => ?_) (fun g22 => ?_)
 ·refine SR <| AS rfl <| NL <| zac Tryd.func81 rfl (TP (v := str _) rfl) ?_
  subst g22
  exact ⟨congrArg str (by decide +kernel), hst.pure⟩
 refine SR <| CN <| zai rfl rfl <| AB rfl <| NL <| zaa rfl (fun g23 => ?_) (fun g23 => ?_)
 ·refine SR <| AS rfl <| NL <| zac Tryd.func81 rfl (TP (v := str _) rfl) ?_
  subst g23
  exact ⟨congrArg str (by decide +kernel), hst.pure⟩
 refine SR <| CN <| zai rfl rfl <| AB rfl <| NL <| zaa rfl (fun g24 => ?_) (fun g24 => ?_)
 ·refine SR <| AS rfl <| NL <| zac Tryd.func81 rfl (TP (v := str _) rfl) ?_
  subst g24
  exact ⟨congrArg str (by decide +kernel), hst.pure⟩
 refine SR <| CN <| zai rfl rfl <| AB rfl <| NL <| zaa rfl (fun g25 => ?_) (fun g25 => ?_)
 ·refine SR <| AS rfl <| NL <| zac Tryd.func81 rfl (TP (v := str _) rfl) ?_
  subst g25
  exact ⟨congrArg str (by decide +kernel), hst.pure⟩
 refine SR <| CN <| zai rfl rfl <| AB rfl <| NL <| zaa rfl (fun g26 => ?_) (fun g26 => ?_)
 ·refine SR <| AS rfl <| NL <| zac Tryd.func81 rfl (TP (v := str _) rfl) ?_
  subst g26
  exact ⟨congrArg str (by decide +kernel), hst.pure⟩
 refine SR <| CN <| zai rfl rfl <| AB rfl <| NL <| zaa rfl (fun g27 => ?_) (fun g27 => ?_)
 ·refine SR <| AS rfl <| NL <| zac Tryd.func81 rfl (TP (v := str _) rfl) ?_
  subst g27
  exact ⟨congrArg str (by decide +kernel), hst.pure⟩
 refine SR <| CN <| zai rfl rfl <| AB rfl <| NL <| zaa rfl (fun g28 => ?_) (fun g28 => ?_)
 ·refine SR <| AS rfl <| NL <| zac Tryd.func81 rfl (TP (v := str _) rfl) ?_
  subst g28
  exact ⟨congrArg str (by decide +kernel), hst.pure⟩
 refine SR <| CN <| zai rfl rfl <| AB rfl <| NL <| zak [(3, .int .u16 _), (60, .bool _)] E2 fun f => zaa rfl (fun g29 => ?_) (fun g29 => ?_)
 ·refine SR <| AS rfl <| NL <| zac Tryd.func81 rfl (TP (v := str _) rfl) ?_
  subst g29
  exact ⟨congrArg str (by decide +kernel), hst.pure⟩
 refine SR <| CN <| zai rfl rfl <| AB rfl <| NL <| zaa rfl (fun g30 => ?_) (fun g30 => ?_)
 ·refine SR <| AS rfl <| NL <| zac Tryd.func81 rfl (TP (v := str _) rfl) ?_
  subst g30
  exact ⟨congrArg str (by decide +kernel), hst.pure⟩
 refine SR <| CN <| zai rfl rfl <| AB rfl <| NL <| zaa rfl (fun g31 => ?_) (fun g31 => ?_)
 ·refine SR <| AS rfl <| NL <| zac Tryd.func81 rfl (TP (v := str _) rfl) ?_
  subst g31
  exact ⟨congrArg str (by decide +kernel), hst.pure⟩
 refine zah <| zaj <| SR <| AS rfl <| NL <| zac Tryd.func81 rfl (TP (v := str _) rfl) ?_
 exact ⟨congrArg str (zcK (by simp only [zjA, List.forall_mem_cons]; exact ⟨g1, g2, g3, g4, g5, g6, g7, g8, g9, g10, g11, g12, g13, g14, g15, g16, g17, g18, g19, g20, g21, g22, g23, g24, g25, g26, g27, g28, g29, g30, g31, fun _ h => absurd h List.not_mem_nil⟩)).symm, hst.pure⟩
theorem zl7 (op : Int) (w : World) : Ret Tryd.prog 82 #[.int .u16 op] w (fun v w' => v = str (zgt thirdT op) ∧ St w NoM [] [] w') := by
 refine zaq (args := [.int .u16 op]) Tryd.func82 rfl rfl rfl ?_
 have hst := St.init w
 refine SR <| AS rfl <| NL <| SQ <| SR <| MH rfl <| NL <| zan <| SR <| CN <| zai rfl rfl <| AB rfl <| NL ?_
 refine zaa rfl (fun g1 => ?_) (fun g1 => ?_)
 ·refine SR <| AS rfl <| NL <| zac Tryd.func82 rfl (TP (v := str _) rfl) ?_
  subst g1
  exact ⟨congrArg str (by decide +kernel), hst.pure⟩
 refine SR <| CN <| zai rfl rfl <| AB rfl <| NL <| zaa rfl (fun g2 => ?_) (fun g2 => ?_)
 ·refine SR <| AS rfl <| NL <| zac Tryd.func82 rfl (TP (v := str _) rfl) ?_
  subst g2
  exact ⟨congrArg str (by decide +kernel), hst.pure⟩
 refine SR <| CN <| zai rfl rfl <| AB rfl <| NL <| zaa rfl (fun g3 => ?_) (fun g3 => ?_)
 ·refine SR <| AS rfl <| NL <| zac Tryd.func82 rfl (TP (v := str _) rfl) ?_
  subst g3
  exact ⟨congrArg str (by decide +kernel), hst.pure⟩
 refine SR <| CN <| zai rfl rfl <| AB rfl <| NL <| zaa rfl (fun g4 => ?_) (fun g4 => ?_)
 ·refine SR <| AS rfl <| NL <| zac Tryd.func82 rfl (TP (v := str _) rfl) ?_
  subst g4
  exact ⟨congrArg str (by decide +kernel), hst.pure⟩
 refine SR <| CN <| zai rfl rfl <| AB rfl <| NL <| zaa rfl (fun g5 => ?_) (fun g5 => ?_)
 ·refine SR <| AS rfl <| NL <| zac Tryd.func82 rfl (TP (v := str _) rfl) ?_
  subst g5
  exact ⟨congrArg str (by decide +kernel), hst.pure⟩
 refine SR <| CN <| zai rfl rfl <| AB rfl <| NL <| zaa rfl (fun g6 => ?_) (fun g6 => ?_)
 ·refine SR <| AS rfl <| NL <| zac Tryd.func82 rfl (TP (v := str _) rfl) ?_
  subst g6
  exact ⟨congrArg str (by decide +kernel), hst.pure⟩
 refine SR <| CN <| zai rfl rfl <| AB rfl <| NL <| zaa rfl (fun g7 => ?_) (fun g7 => ?_)
 ·refine SR <| AS rfl <| NL <| zac Tryd.func82 rfl (TP (v := str _) rfl) ?_
  subst g7
  exact ⟨congrArg str (by decide +kernel), hst.pure⟩
 refine SR <| CN <| zai rfl rfl <| AB rfl <| NL <| zaa rfl (fun g8 => ?_) (fun g8 => ?_)
 ·refine SR <| AS rfl <| NL <| zac Tryd.func82 rfl (TP (v := str _) rfl) ?_
  subst g8
  exact ⟨congrArg str (by decide +kernel), hst.pure⟩
 refine SR <| CN <| zai rfl rfl <| AB rfl <| NL <| zak [(3, .int .u16 _), (20, .bool _)] E2 fun f => zaa rfl (fun g9 => ?_) (fun g9 => ?_)
 ·refine SR <| AS rfl <| NL <| zac Tryd.func82 rfl (TP (v := str _) rfl) ?_
  subst g9
  exact ⟨congrArg str (by decide +kernel), hst.pure⟩
 refine SR <| CN <| zai rfl rfl <| AB rfl <| NL <| zaa rfl (fun g10 => ?_) (fun g10 => ?_)
 ·refine SR <| AS rfl <| NL <| zac Tryd.func82 rfl (TP (v := str _) rfl) ?_
  subst g10
  exact ⟨congrArg str (by decide +kernel), hst.pure⟩
 refine SR <| CN <| zai rfl rfl <| AB rfl <| NL <| zaa rfl (fun g11 => ?_) (fun g11 => ?_)
 ·refine SR <| AS rfl <| NL <| zac Tryd.func82 rfl (TP (v := str _) rfl) ?_
  subst g11
  exact ⟨congrArg str (by decide +kernel), hst.pure⟩
 refine SR <| CN <| zai rfl rfl <| AB rfl <| NL <| zaa rfl (fun g12 => ?_) (fun g12 => ?_)
 ·refine SR <| AS rfl <| NL <| zac Tryd.func82 rfl (TP (v := str _) rfl) ?_
  subst g12
  exact ⟨congrArg str (by decide +kernel), hst.pure⟩
 refine SR <| CN <| zai rfl rfl <| AB rfl <| NL <| zaa rfl (fun g13 => ?_) (fun g13 => ?_)
 ·refine SR <| AS rfl <| NL <| zac Tryd.func82 rfl (TP (v := str _) rfl) ?_
  subst g13
  exact ⟨congrArg str (by decide +kernel), hst.pure⟩
 refine SR <| CN <| zai rfl rfl <| AB rfl <| NL <| zaa rfl (fun g14 => ?_) (fun g14 => ?_)
 ·refine SR <| AS rfl <| NL <| zac Tryd.func82 rfl (TP (v := str _) rfl) ?_
  subst g14
  exact ⟨congrArg str (by decide +kernel), hst.pure⟩
 refine SR <| CN <| zai rfl rfl <| AB rfl <| NL <| zaa rfl (fun g15 => ?_) (fun g15 => ?_)
 ·refine SR <| AS rfl <| NL <| zac Tryd.func82 rfl (TP (v := str _) rfl) ?_
  subst g15
  exact ⟨congrArg str (by decide +kernel), hst.pure⟩
 refine SR <| CN <| zai rfl rfl <| AB rfl <| NL <| zaa rfl (fun g16 => ?_) (fun g16 => ?_)
 ·refine SR <| AS rfl <| NL <| zac Tryd.func82 rfl (TP (v := str _) rfl) ?_
  subst g16
  exact ⟨congrArg str (by decide +kernel), hst.pure⟩
 refine SR <| CN <| zai rfl rfl <| AB rfl <| NL <| zaa rfl (fun g17 => ?_) (fun g17 => ?_)
 ·refine SR <| AS rfl <| NL <| zac Tryd.func82 rfl (TP (v := str _) rfl) ?_
  subst g17
  exact ⟨congrArg str (by decide +kernel), hst.pure⟩
 refine SR <| CN <| zai rfl rfl <| AB rfl <| NL <| zaa rfl (fun g18 => ?_) (fun g18 => ?_)
 ·refine SR <| AS rfl <| NL <| zac Tryd.func82 rfl (TP (v := str _) rfl) ?_
  subst g18
  exact ⟨congrArg str (by decide +kernel), hst.pure⟩
 refine SR <| CN <| zai rfl rfl <| AB rfl <| NL <| zak [(3, .int .u16 _), (40, .bool _)] E2 fun f => zaa rfl (fun g19 => ?_) (fun g19 => ?_)
 ·refine SR <| AS rfl <| NL <| zac Tryd.func82 rfl (TP (v := str _) rfl) ?_
  subst g19
  exact ⟨congrArg str (by decide +kernel), hst.pure⟩
 refine SR <| CN <| zai rfl rfl <| AB rfl <| NL <| zaa rfl (fun g20 => ?_) (fun g20 => ?_)
 ·refine SR <| AS rfl <| NL <| zac Tryd.func82 rfl (TP (v := str _) rfl) ?_
  subst g20
  exact ⟨congrArg str (by decide +kernel), hst.pure⟩
 refine SR <| CN <| zai rfl rfl <| AB rfl <| NL <| zaa rfl (fun g21 => ?_) (fun g21 => ?_)
 ·refine SR <| AS rfl <| NL <| zac Tryd.func82 rfl (TP (v := str _) rfl) ?_
  subst g21
  exact ⟨congrArg str (by decide +kernel), hst.pure⟩
 refine SR <| CN <| zai rfl rfl <| AB rfl <| NL <| zaa rfl (fun g22 => ?_) (fun g22 => ?_)
 ·refine SR <| AS rfl <| NL <| zac Tryd.func82 rfl (TP (v := str _) rfl) ?_
  subst g22
  exact ⟨congrArg str (by decide +kernel), hst.pure⟩
 refine SR <| CN <| zai rfl rfl <| AB rfl <| NL <| zaa rfl (fun g23 => ?_) (fun g23 => ?_)
 ·refine SR <| AS rfl <| NL <| zac Tryd.func82 rfl (TP (v := str _) rfl) ?_
  subst g23
  exact ⟨congrArg str (by decide +kernel), hst.pure⟩
 refine SR <| CN <| zai rfl rfl <| AB rfl <| NL <| zaa rfl (fun g24 => ?_) (fun g24 => ?_)
 ·refine SR <| AS rfl <| NL <| zac Tryd.func82 rfl (TP (v := str _) rfl) ?_
  subst g24
  exact ⟨congrArg str (by decide +kernel), hst.pure⟩
 refine SR <| CN <| zai rfl rfl <| AB rfl <| NL <| zaa rfl (fun g25 => ?_) (fun g25 => ?_)
 ·refine SR <| AS rfl <| NL <| zac Tryd.func82 rfl (TP (v := str _) rfl) ?_
  subst g25
  exact ⟨congrArg str (by decide +kernel), hst.pure⟩
 refine SR <| CN <| zai rfl rfl <| AB rfl <| NL <| zaa rfl (fun g26 => ?_) (fun g26 => ?_)
 ·refine SR <| AS rfl <| NL <| zac Tryd.func82 rfl (TP (v := str _) rfl) ?_
  subst g26
  exact ⟨congrArg str (by decide +kernel), hst.pure⟩
 refine SR <| CN <| zai rfl rfl <| AB rfl <| NL <| zaa rfl (fun g27 => ?_) (fun g27 => ?_)
 ·refine SR <| AS rfl <| NL <| zac Tryd.func82 rfl (TP (v := str _) rfl) ?_
  subst g27
  exact ⟨congrArg str (by decide +kernel), hst.pure⟩
 refine SR <| CN <| zai rfl rfl <| AB rfl <| NL <| zaa rfl (fun g28 => ?_) (fun g28 => ?_)
 ·refine SR <| AS rfl <| NL <| zac Tryd.func82 rfl (TP (v := str _) rfl) ?_
  subst g28
  exact ⟨congrArg str (by decide +kernel), hst.pure⟩
 refine SR <| CN <| zai rfl rfl <| AB rfl <| NL <| zak [(3, .int .u16 _), (60, .bool _)] E2 fun f => zaa rfl (fun g29 => ?_) (fun g29 => ?_)
 ·refine SR <| AS rfl <| NL <| zac Tryd.func82 rfl (TP (v := str _) rfl) ?_
  subst g29
  exact ⟨congrArg str (by decide +kernel), hst.pure⟩
 refine SR <| CN <| zai rfl rfl <| AB rfl <| NL <| zaa rfl (fun g30 => ?_) (fun g30 => ?_)
 ·refine SR <| AS rfl <| NL <| zac Tryd.func82 rfl (TP (v := str _) rfl) ?_
  subst g30
  exact ⟨congrArg str (by decide +kernel), hst.pure⟩
 refine SR <| CN <| zai rfl rfl <| AB rfl <| NL <| zaa rfl (fun g31 => ?_) (fun g31 => ?_)
 ·refine SR <| AS rfl <| NL <| zac Tryd.func82 rfl (TP (v := str _) rfl) ?_
  subst g31
  exact ⟨congrArg str (by decide +kernel), hst.pure⟩
 refine zah <| zaj <| SR <| AS rfl <| NL <| zac Tryd.func82 rfl (TP (v := str _) rfl) ?_
 exact ⟨congrArg str (zcK (by simp only [thirdT, List.forall_mem_cons]; exact ⟨g1, g2, g3, g4, g5, g6, g7, g8, g9, g10, g11, g12, g13, g14, g15, g16, g17, g18, g19, g20, g21, g22, g23, g24, g25, g26, g27, g28, g29, g30, g31, fun _ h => absurd h List.not_mem_nil⟩)).symm, hst.pure⟩
theorem zpC (op : Int) (w : World) : Ret Tryd.prog 58 #[.int .u16 op] w (fun v w' => v = str (zhm op) ∧ St w NoM [] [] w') := by
 refine zaq (args := [.int .u16 op]) Tryd.func58 rfl rfl rfl ?_
 have hst := St.init w
 refine SR <| AS rfl <| NL <| SQ <| zan <| SR <| MH rfl <| CN <| zba rfl rfl <| AB rfl <| NL <| zaa rfl (fun g1 => ?_) (fun g1 => ?_)
 ·refine SR <| MH rfl <| CN <| zao (v1 := .int .u16 _) ent80 rfl rfl <| Ret.det (zl9 _ _) hst fun w hst => AS rfl <| NL <| zac Tryd.func58 rfl (TP (v := str _) rfl) <| ⟨congrArg str ?_, hst.pure⟩
  unfold zhm
  rw [if_pos g1]
 refine SR <| MH rfl <| CN <| zba rfl rfl <| AB rfl <| NL <| zaa rfl (fun g2 => ?_) (fun g2 => ?_)
 ·refine SR <| MH rfl <| CN <| zao (v1 := .int .u16 _) ent81 rfl rfl <| Ret.det (zkg _ _) hst fun w hst => AS rfl <| NL <| zac Tryd.func58 rfl (TP (v := str _) rfl) <| ⟨congrArg str ?_, hst.pure⟩
  unfold zhm
  rw [if_neg g1, if_pos g2]
 refine zah <| zaj <| SR <| MH rfl <| CN <| zao (v1 := .int .u16 _) ent82 rfl rfl <| Ret.det (zl7 _ _) hst fun w hst => AS rfl <| NL <| zac Tryd.func58 rfl (TP (v := str _) rfl) <| ⟨congrArg str ?_, hst.pure⟩
 unfold zhm
 rw [if_neg g1, if_neg g2]
theorem zg4 (c : Int) (w : World) : Ret Tryd.prog 103 #[.int .u8 c] w (fun v w' => v = str (zgt zcH c) ∧ St w NoM [] [] w') := by
 refine zaq (args := [.int .u8 c]) Tryd.func103 rfl rfl rfl ?_
 have hst := St.init w
 refine SR <| AS rfl <| NL <| SQ <| SR <| MC rfl <| NL <| zan <| SR <| CN <| zai rfl rfl <| AB rfl <| NL ?_
 refine zaa rfl (fun g1 => ?_) (fun g1 => ?_)
 ·refine SR <| AS rfl <| NL <| zac Tryd.func103 rfl (TP (v := str _) rfl) ?_
  subst g1
  exact ⟨congrArg str (by decide +kernel), hst.pure⟩
 refine SR <| CN <| zai rfl rfl <| AB rfl <| NL <| zaa rfl (fun g2 => ?_) (fun g2 => ?_)
 ·refine SR <| AS rfl <| NL <| zac Tryd.func103 rfl (TP (v := str _) rfl) ?_
  subst g2
  exact ⟨congrArg str (by decide +kernel), hst.pure⟩
 refine SR <| CN <| zai rfl rfl <| AB rfl <| NL <| zaa rfl (fun g3 => ?_) (fun g3 => ?_)
 ·refine SR <| AS rfl <| NL <| zac Tryd.func103 rfl (TP (v := str _) rfl) ?_
  subst g3
  exact ⟨congrArg str (by decide +kernel), hst.pure⟩
 refine SR <| CN <| zai rfl rfl <| AB rfl <| NL <| zaa rfl (fun g4 => ?_) (fun g4 => ?_)
 ·refine SR <| AS rfl <| NL <| zac Tryd.func103 rfl (TP (v := str _) rfl) ?_
  subst g4
  exact ⟨congrArg str (by decide +kernel), hst.pure⟩
 refine SR <| CN <| zai rfl rfl <| AB rfl <| NL <| zaa rfl (fun g5 => ?_) (fun g5 => ?_)
 ·refine SR <| AS rfl <| NL <| zac Tryd.func103 rfl (TP (v := str _) rfl) ?_
  subst g5
  exact ⟨congrArg str (by decide +kernel), hst.pure⟩
 refine SR <| CN <| zai rfl rfl <| AB rfl <| NL <| zaa rfl (fun g6 => ?_) (fun g6 => ?_)
 ·refine SR <| AS rfl <| NL <| zac Tryd.func103 rfl (TP (v := str _) rfl) ?_
  subst g6
  exact ⟨congrArg str (by decide +kernel), hst.pure⟩
 refine SR <| CN <| zai rfl rfl <| AB rfl <| NL <| zaa rfl (fun g7 => ?_) (fun g7 => ?_)
 ·refine SR <| AS rfl <| NL <| zac Tryd.func103 rfl (TP (v := str _) rfl) ?_
  subst g7
  exact ⟨congrArg str (by decide +kernel), hst.pure⟩
 refine SR <| CN <| zai rfl rfl <| AB rfl <| NL <| zaa rfl (fun g8 => ?_) (fun g8 => ?_)
 ·refine SR <| AS rfl <| NL <| zac Tryd.func103 rfl (TP (v := str _) rfl) ?_
  subst g8
  exact ⟨congrArg str (by decide +kernel), hst.pure⟩
 refine SR <| CN <| zai rfl rfl <| AB rfl <| NL <| zak [(3, .int .u8 _), (20, .bool _)] E2 fun f => zaa rfl (fun g9 => ?_) (fun g9 => ?_)
 ·refine SR <| AS rfl <| NL <| zac Tryd.func103 rfl (TP (v := str _) rfl) ?_
  subst g9
  exact ⟨congrArg str (by decide +kernel), hst.pure⟩
 refine SR <| CN <| zai rfl rfl <| AB rfl <| NL <| zaa rfl (fun g10 => ?_) (fun g10 => ?_)
 ·refine SR <| AS rfl <| NL <| zac Tryd.func103 rfl (TP (v := str _) rfl) ?_
  subst g10
  exact ⟨congrArg str (by decide +kernel), hst.pure⟩
 refine SR <| CN <| zai rfl rfl <| AB rfl <| NL <| zaa rfl (fun g11 => ?_) (fun g11 => ?_)
 ·refine SR <| AS rfl <| NL <| zac Tryd.func103 rfl (TP (v := str _) rfl) ?_
  subst g11
  exact ⟨congrArg str (by decide +kernel), hst.pure⟩
 refine zah <| zaj <| SR <| AS rfl <| NL <| zac Tryd.func103 rfl (TP (v := str _) rfl) ?_
 exact ⟨congrArg str (zcK (by simp only [zcH, List.forall_mem_cons]; exact ⟨g1, g2, g3, g4, g5, g6, g7, g8, g9, g10, g11, fun _ h => absurd h List.not_mem_nil⟩)).symm, hst.pure⟩
theorem zme {l : List zb8} {n : Nat} {a : Int} (ha : a = n) (hn : n < l.length) : (l.map str)[0 + a.toNat * 1]? = some (str (l.getD n [])) := by
 subst ha; simp [List.getD, hn]
theorem zmd {l : List zb8} {n : Nat} {c : UInt8} (hn : n < l.length) : zbh (l.map str) (0 + (n : Int).toNat * 1) [str (l.getD n [] ++ [UInt8.ofNat ((c.toNat : Int)).toNat])] = (l.modify n (· ++ [c])).map str := by
 simp only [zbh, Int.toNat_natCast, Nat.mul_one, Nat.zero_add, UInt8.ofNat_toNat]
 apply List.ext_getElem
 ·simp
 ·intro j h1 h2
  simp only [List.length_map, List.length_modify] at h2
  by_cases hj : n = j
  ·subst hj; simp [List.getElem_modify, List.getD, hn]
  ·simp [List.getElem_modify, hj, List.getElem_set_ne hj]
theorem R6six {l : List zb8} (h : l.length = 6) : ∃ f0 f1 f2 f3 f4 f5, l = [f0, f1, f2, f3, f4, f5] := by
 match l, h with
 | [f0, f1, f2, f3, f4, f5], _ => exact ⟨f0, f1, f2, f3, f4, f5, rfl⟩
theorem zkj (s f0 f1 f2 f3 f4 f5 : zb8) (hok : zmS s = true) (hf : zbH s = [f0, f1, f2, f3, f4, f5]) (w : World) : Ret Tryd.prog 59 #[str s] w (fun v w' => v = .agg #[str f0, str f1, str f2, str f3, str f4, str f5] ∧ St w NoM [] [] w') := by
 refine zaq (args := [str s]) Tryd.func59 rfl rfl rfl ?_
 have hst := St.init w
 obtain ⟨hasc, h5, hlen, _, _⟩ := zgI hok
 refine SR <| CN <| zaz hst zdE fun w b2 hst => NSR <| CN <| zaz hst zdE fun w b3 hst => NSR <| AI rfl <| NL <| SQ <| SQ <| RG ?_
 refine MS rfl <| CN <| zdD hst ty9 rfl fun w it8 hst => NL <| zan <| zaY <| za4 [(2, Pp _ _), (3, Pp _ _), (8, .pointer (some ⟨_, 0, none⟩))] E3 (fun (i : Nat) => [(4, .int .i64 ((zaX (s.take i)).1 : Int))]) (fun (i : Nat) => [Res.iter it8 s i, Res.row b3 124 ((zaX (s.take i)).2.map str)]) (fun (i : Nat) => i ≤ s.length) (fun (i : Nat) => s.length - i) (0) hst (Nat.zero_le _) ⟨rfl, trivial⟩ ?_
 intro i f w hst hJ ih1
 refine SQ <| RG ?_
 rcases Nat.lt_or_ge i s.length with g2 | g2
 ·have hc := hasc _ (List.getElem_mem g2)
  have hstep := zfh g2
  have hat : (zaX (s.take (i + 1))).1 ≤ 5 := Nat.le_trans zgU h5
  have hat0 : (zaX (s.take i)).1 ≤ 5 := Nat.le_trans zgU h5
  have hsh : ((zaX (s.take i)).2.getD (zaX (s.take i)).1 []).length ≤ i := zlV (zes s i hJ)
  refine CN (zey hst rfl .u0 (List.getElem?_eq_getElem g2) (hc) fun w hst => ?_)
  refine CN <| Ex (.bool _) rfl rfl <| NL <| SQ <| zas (Vb (rfl : true = _)) <| zah <| zan <| SR <| CN <| Ex (.int .i32 _) rfl rfl <| CN <| zaf (v := .int .i32 _) rfl <| NSR <| CN <| zad (v := .int .i32 _) rfl <| CN (zai rfl rfl ?_)
  refine NL <| zaa rfl (fun g3 => ?_) (fun g3 => ?_)
  ·refine RG <| MI rfl <| CN <| zaC rfl rfl rfl zck <| AI rfl <| NL <| zaj <| zax ?_
   have hsp : zaX (s.take (i + 1)) = ((zaX (s.take i)).1 + 1, (zaX (s.take i)).2) := by rw [hstep]; unfold zfj; rw [if_pos (UInt8.toNat_inj.1 (by have : (32 : UInt8).toNat = 32 := rfl; omega))]
   exact ih1 (i + 1) _ w (by omega) (by (try dsimp only); rw [hsp]; exact hst) (by omega) E3 ⟨(Vi (by rw [hsp]; rfl)), trivial⟩
  refine RG <| MI rfl <| CN <| zbj zdE ty9 rfl rfl (by omega) (by omega) <| CN <| zae (v := str _) ty9 rfl rfl (hst.cellL Q1 (zme rfl (by rw [zcZ]; omega))) <| CN <| zad (v := .int .i32 _) rfl <| CN <| zgj ty21 ty9 rfl (by omega) (by omega) <| CN <| zhT rfl rfl (by first | omega | (simp only [List.length_cons, List.length_nil, List.length_append]; omega) | (simp; omega)) <| CN <| zbj zdE ty9 rfl rfl (by omega) (by omega) <| CN <| zkl (v := str _) hst ty9 rfl rfl rfl rfl rfl .u1 (by simp only [List.length_map, zcZ, List.length_cons, List.length_nil]; omega) fun w hst => NL <| zaj <| zax ?_
  have hsp : zaX (s.take (i + 1)) = ((zaX (s.take i)).1, (zaX (s.take i)).2.modify (zaX (s.take i)).1 (· ++ [s[i]])) := by rw [hstep]; unfold zfj; rw [if_neg (fun he => g3 (by rw [he]; rfl))]
  exact ih1 (i + 1) _ w (by omega) (by (try dsimp only); rw [hsp]; dsimp only; rw [← zmd (by rw [zcZ]; omega)]; exact hst) (by omega) E3 ⟨(Vi (by rw [hsp])), trivial⟩
 obtain rfl : i = s.length := by omega
 rw [List.take_length, show (zaX s).2 = [f0, f1, f2, f3, f4, f5] from hf] at hst
 dsimp only [List.map] at hst
 refine CN <| zez hst rfl Q0 g2 <| CN <| Ex (.bool _) rfl rfl <| NL <| SQ <| zal (Vb (rfl : false = _)) <| zaI (id := 0) rfl <| SR <| CN <| zaA (vs := [str _, str _, str _, str _, str _, str _]) zdE rfl rfl rfl (zag (n := 6) (hst.objL Q1) _ rfl) <| CN (SO (v := .agg #[str _, str _, str _, str _, str _, str _]) hst zdE rfl rfl .u2 fun w hst => ?_)
 refine NL <| zac Tryd.func59 rfl (zaM (vs := [str _, str _, str _, str _, str _, str _]) rfl zdE rfl rfl (zag (n := 6) (hst.objL Q2) _ rfl)) ?_
 exact ⟨rfl, hst.pure⟩
end Go.SK
namespace Go.SK
open Go Go.Proofs
theorem zfi : TyF Tryd.prog 98 (.struct (za8 Tryd.prog 98)) 8 80 [.int .u16 0, str [], .bool false, .bool false, str [], str [], .int .i64 0, .int .u8 0] := zaZ Kr Kr
theorem ent58 : zaB Tryd.prog 58 := ⟨Tryd.f58, _, Tryd.func58, Kr, rfl⟩
theorem stf98 : zcz Tryd.prog 98 [(0, 1), (1, 1), (2, 1), (3, 1), (4, 1), (5, 1), (6, 1), (7, 1)] := ⟨za8 Tryd.prog 98, Kr, fun w => Kr⟩
theorem ent59 : zaB Tryd.prog 59 := ⟨Tryd.f59, _, Tryd.func59, Kr, rfl⟩
theorem zf1 : FldF Tryd.prog 98 2 2 := FldF.of (n := 0) Kr
theorem ty4 : TyF Tryd.prog 4 .bool 1 1 [.bool false] := zaZ Kr Kr
theorem zdi : FldF Tryd.prog 98 3 3 := FldF.of (n := 0) Kr
theorem zjS : FldF Tryd.prog 98 6 6 := FldF.of (n := 0) Kr
end Go.SK
namespace Go.SK
open Go Go.Proofs
open Go.RowKit
theorem zkh (s : zb8) (hasc : ∀ c ∈ s, c.toNat < 128) (w : World) : Ret Tryd.prog 104 #[str s] w (fun v w' => v = .int .u32 (zqu s) ∧ St w NoM [] [] w') := by
 refine zaq (args := [str s]) Tryd.func104 rfl rfl rfl ?_
 have hst := St.init w
 refine SR <| AU rfl <| NSR <| AU rfl <| NL <| SQ <| SR <| MS rfl <| CN <| zdD hst ty9 rfl fun w it7 hst => NL <| zan ?_
 refine zaY <| za4 [(7, .pointer (some ⟨_, 0, none⟩))] ⟨rfl, trivial⟩ (fun (i : Nat) => [(3, .int .u32 (zqu (s.take i)))]) (fun (i : Nat) => [Res.iter it7 s i]) (fun (i : Nat) => i ≤ s.length) (fun (i : Nat) => s.length - i) (0) hst (Nat.zero_le _) ⟨rfl, trivial⟩ ?_
 intro i f w hst hJ ih1
 refine SQ <| RG ?_
 rcases Nat.lt_or_ge i s.length with g2 | g2
 ·have hc := hasc _ (List.getElem_mem g2)
  have hstep := znc g2
  refine CN (zey hst rfl .u0 (List.getElem?_eq_getElem g2) (hc) fun w hst => ?_)
  refine CN <| Ex (.bool _) rfl rfl <| NL <| SQ <| zas (Vb (rfl : true = _)) <| zah <| zan <| SR <| CN <| Ex (.int .i32 _) rfl rfl <| CN <| zaf (v := .int .i32 _) rfl <| NR <| MU rfl <| CN <| zq2 rfl rfl <| CN (zad (v := .int .i32 _) rfl ?_)
  refine CN (zbA rfl rfl rfl Wi32 ?_)
  first | refine CN (zaH ty21 zbT rfl zq8 ?_) | refine CN (zaP ty21 zbT rfl ?_)
  refine CN <| zq3 rfl rfl <| AU rfl <| NL <| zaj <| zax ?_
  exact ih1 (i + 1) _ w (by omega) hst (by omega) ⟨rfl, trivial⟩ ⟨(congrArg (Value.int .u32) (by rw [hstep]; rfl)), trivial⟩
 obtain rfl : i = s.length := by omega
 refine CN <| zez hst rfl Q0 g2 <| CN <| Ex (.bool _) rfl rfl <| NL <| SQ <| zal (Vb (rfl : false = _)) <| zaI (id := 0) rfl <| SR <| MU rfl <| AU rfl <| NL <| zac Tryd.func104 rfl (TP (v := .int .u32 _) rfl) ?_
 exact ⟨congrArg (Value.int .u32) (by rw [List.take_length]), hst.pure⟩
theorem zn0 (op : Int) (h0 : 0 ≤ op) (w : World) : Ret Tryd.prog 40 #[.int .u16 op] w (fun v w' => v = formV (zcR op) ∧ St w NoM [] [] w') := by
 refine zaq (args := [.int .u16 op]) Tryd.func40 rfl rfl rfl ?_
 have hst := St.init w
 refine SR <| CN <| zaz hst zfi fun w b2 hst => AB rfl <| NSR <| MH rfl <| CN <| zao (v1 := .int .u16 _) ent58 rfl rfl <| Ret.det (zpC _ _) hst fun w hst => AS rfl <| NL <| SQ <| SR <| MS rfl ?_
 refine CN <| zb7 rfl rfl <| NL <| zaa rfl (fun g1 => ?_) (fun g1 => ?_)
 ·have hemp := g1
  refine SR <| CN (zau zfi stf98 .nil ?_)
  refine CN (SO (v := zaJ _ _ _ _ _ _ _ _) hst zfi rfl rfl .u0 fun w hst => ?_)
  refine AB rfl <| NL <| zat Tryd.func40 rfl (zaM (vs := zbm _ _ _ _ _ _ _ _) rfl zfi rfl rfl (zag (n := 8) (hst.objL Q0) _ rfl)) (TP (v := .bool _) rfl) ?_
  rw [← (zed h0).2]
  have e : ofS op = none := by unfold ofS; rw [if_pos hemp]
  rw [e]
  exact ⟨rfl, hst.pure⟩
 have hemp := g1
 obtain ⟨fd0, fd1, fd2, fd3, fd4, fd5, hf⟩ := R6six (zcZ (zhm op))
 replace hf : zbH (zhm op) = [fd0, fd1, fd2, fd3, fd4, fd5] := hf
 obtain ⟨_, _, _, hfa, hf5⟩ := zgI (zed h0).1
 rw [hf] at hfa hf5
 replace hf5 : 0 < fd5.length := List.length_pos_iff.2 (hf5.resolve_left hemp)
 have hasc : ∀ c ∈ fd1, c.toNat < 128 := hfa fd1 (by simp)
 refine zah <| SR <| MS rfl <| CN <| zao (v1 := str _) ent59 rfl rfl <| Ret.det (zkj _ _ _ _ _ _ _ (zed h0).1 hf _) hst fun w hst => CN <| zaz hst zdE fun w b5 hst => CN (SO (v := .agg #[str _, str _, str _, str _, str _, str _]) hst zdE rfl rfl .u0 fun w hst => ?_)
 refine NL <| SQ <| RunD.start [] hst (bs := [0, 0, 2, 0, 8, 0, 32, 0, 128, 384, 896, 2047, 0, 8191]) (ds := [some 16, some 17, some 18, some 19, some 20, some 21, some 22, some 23, some 24, some 25, some 26, some 27, some 6, none]) ⟨Kr, Kr, Kr⟩ (fun tab2 => ?_)
 refine DO tab2 1 (fun f' L' w' hc=> zad (v := .int .u16 _) (hc.old rfl rfl rfl) hc.z) <| DO tab2 2 (fun f' L' w' hc=> zbj zdE ty9 (hc.old (v := Pp _ _) rfl rfl rfl) rfl De De hc.z) <| DO tab2 3 (fun f' L' w' hc=> zae (v := str _) ty9 rfl (hc.d 1 rfl rfl rfl rfl) (hc.st.cellL (List.mem_append_right _ Q0) rfl) hc.z) <| DO tab2 4 (fun f' L' w' hc=> zbj zdE ty9 (hc.old (v := Pp _ _) rfl rfl rfl) rfl De De hc.z) <| DO tab2 5 (fun f' L' w' hc=> zae (v := str _) ty9 rfl (hc.d 3 rfl rfl rfl rfl) (hc.st.cellL (List.mem_append_right _ Q0) rfl) hc.z) <| DO tab2 6 (fun f' L' w' hc=> zbj zdE ty9 (hc.old (v := Pp _ _) rfl rfl rfl) rfl De De hc.z) <| DO tab2 7 (fun f' L' w' hc=> zae (v := str _) ty9 rfl (hc.d 5 rfl rfl rfl rfl) (hc.st.cellL (List.mem_append_right _ Q0) rfl) hc.z) <| DO tab2 8 (fun f' L' w' hc=> zbj zdE ty9 (hc.old (v := Pp _ _) rfl rfl rfl) rfl De De hc.z) <| DO tab2 9 (fun f' L' w' hc=> zae (v := str _) ty9 rfl (hc.d 7 rfl rfl rfl rfl) (hc.st.cellL (List.mem_append_right _ Q0) rfl) hc.z) <| DO tab2 10 (fun f' L' w' hc=> za9 ty9 (hc.d 8 rfl rfl rfl rfl) rfl Om Om hc.z) <| DO tab2 11 (fun f' L' w' hc=> zn8 (hc.d 9 rfl rfl rfl rfl) rfl hc.z) <| DO tab2 12 (fun _ _ _ hc => zau zfi stf98 (.c (v := .int .u16 _) (hc.d 0 rfl rfl rfl rfl) (h := (.c (v := str _) (hc.d 2 rfl rfl rfl rfl) (h := (.c (v := str _) (hc.d 4 rfl rfl rfl rfl) (h := (.c (v := str _) (hc.d 6 rfl rfl rfl rfl) (h := (.c (v := .int .u8 _) (hc.d 10 rfl rfl rfl rfl) (h := .nil)))))))))) hc.z) ?_
 refine RunD.op (fun v rs => ∃ b, v = .pointer (some ⟨b, 0, none⟩) ∧ rs = [Res.row b 98 [.int .u16 0, str [], .bool false, .bool false, str [], str [], .int .i64 0, .int .u8 0]]) tab2 13 (fun _ _ _ hc => zaz hc.st zfi fun w b hst => ⟨[_], ⟨b, rfl, rfl⟩, hst⟩) <| RunD.fin zaE tab2 hst rfl (fun f3 w R6 hs4 hd5 hr7 hst => ?_)
 obtain ⟨h16_, r0⟩ := hd5 0 16 rfl rfl
 obtain ⟨h17_, r1⟩ := hd5 1 17 rfl rfl
 obtain ⟨h18_, r2⟩ := hd5 2 18 rfl rfl
 obtain ⟨h19_, r3⟩ := hd5 3 19 rfl rfl
 obtain ⟨h20_, r4⟩ := hd5 4 20 rfl rfl
 obtain ⟨h21_, r5⟩ := hd5 5 21 rfl rfl
 obtain ⟨h22_, r6⟩ := hd5 6 22 rfl rfl
 obtain ⟨h23_, r7⟩ := hd5 7 23 rfl rfl
 obtain ⟨h24_, r8⟩ := hd5 8 24 rfl rfl
 obtain ⟨h25_, r9⟩ := hd5 9 25 rfl rfl
 obtain ⟨h26_, r10⟩ := hd5 10 26 rfl rfl
 obtain ⟨h27_, r11⟩ := hd5 11 27 rfl rfl
 obtain ⟨b6, h6_, r12⟩ := hd5 12 6 rfl rfl
 simp only [rg13, Fc, Fn, Mc, Mn, r0, r1, r2, r3, r4, r5, r6, r7, r8, r9, r10, r11, r12, Na, An, Ca] at hst
 refine zaL (sl := [(2, Pp _ _), (5, Pp _ _), (6, Pp _ _), (27, zaJ _ _ _ _ _ _ _ _)]) ⟨(hs4 2 rfl).trans rfl, (hs4 5 rfl).trans rfl, h6_, h27_, trivial⟩ ?_
 clear hs4 hd5 hr7 tab2
 refine CN (SO (v := zaJ _ _ _ _ _ _ _ _) hst zfi rfl rfl .u0 fun w hst => ?_)
 refine NL <| zak [(2, Pp _ _), (5, Pp _ _), (6, Pp _ _)] E3 fun f => SQ <| SR <| CN <| zbj zdE ty9 rfl rfl De De <| CN <| zae (v := str _) ty9 rfl rfl (hst.cellL Q1 rfl) <| CN <| zdD hst ty9 rfl fun w it30 hst => NL <| zan <| zaY <| za4 [(2, Pp _ _), (5, Pp _ _), (6, Pp _ _), (30, .pointer (some ⟨_, 0, none⟩))] E4 (fun (i : Nat) => []) (fun (i : Nat) => [Res.iter it30 fd1 i, Res.row b6 98 [.int .u16 op, str fd0, .bool ((fd1.take i).contains 84), .bool ((fd1.take i).contains 82), str fd2, str fd3, .int .i64 0, .int .u8 (zgm (fd5.getD 0 0) 48)]]) (fun (i : Nat) => i ≤ fd1.length) (fun (i : Nat) => fd1.length - i) (0) hst (Nat.zero_le _) trivial ?_
 intro i f w hst hJ ih8
 refine SQ <| RG ?_
 rcases Nat.lt_or_ge i fd1.length with g9 | g9
 ·have hc := hasc _ (List.getElem_mem g9)
  refine CN (zey hst rfl .u0 (List.getElem?_eq_getElem g9) (hc) fun w hst => ?_)
  refine CN <| Ex (.bool _) rfl rfl <| NL <| SQ <| zas (Vb (rfl : true = _)) <| zah <| zan <| SR <| CN <| Ex (.int .i32 _) rfl rfl <| CN <| zaf (v := .int .i32 _) rfl <| NSR <| CN <| zab zf1 rfl <| CN (zae (v := .bool _) ty4 rfl rfl (hst.cellL Q1 rfl) ?_)
  refine MB rfl <| zcO (d := 36) rfl (fun g10 => ?_) (fun g10 => ?_)
  ·refine OM (t := 36) rfl (Vb g10) rfl <| OM (t := 36) rfl (Vb g10) rfl <| CN <| zar (u := .bool _) (Vb g10) rfl <| CN <| zab zf1 rfl <| CN (SO (v := .bool _) hst ty4 rfl rfl .u1 fun w hst => ?_)
   refine NR <| CN <| zab zdi rfl <| CN <| zae (v := .bool _) ty4 rfl rfl (hst.cellL Q1 rfl) <| MB rfl <| zcO (d := 43) rfl (fun g11 => ?_) (fun g11 => ?_)
   ·refine OM (t := 43) rfl (Vb g11) rfl <| OM (t := 43) rfl (Vb g11) rfl <| CN <| zar (u := .bool _) (Vb g11) rfl <| CN <| zab zdi rfl <| CN (SO (v := .bool _) hst ty4 rfl rfl .u1 fun w hst => ?_)
    refine NL <| zaj <| zax ?_
    exact ih8 (i + 1) _ w (by omega) (by (try dsimp only); rw [zcs 84 (m := 84) rfl g9, zcs 82 (m := 82) rfl g9]; simp only [g10, g11, Bool.true_or, Bool.false_or]; exact hst) (by omega) E4 trivial
   refine TK (t := 43) rfl (Vb g11) <| zad (v := .int .i32 _) rfl <| TK (t := 43) rfl (Vb g11) <| zai rfl rfl <| CN <| zam (u := .bool _) (Vb g11) rfl <| CN <| zab zdi rfl <| CN (SO (v := .bool _) hst ty4 rfl rfl .u1 fun w hst => ?_)
   refine NL <| zaj <| zax ?_
   exact ih8 (i + 1) _ w (by omega) (by (try dsimp only); rw [zcs 84 (m := 84) rfl g9, zcs 82 (m := 82) rfl g9]; simp only [g10, g11, Bool.true_or, Bool.false_or]; exact hst) (by omega) E4 trivial
  refine TK (t := 36) rfl (Vb g10) <| zad (v := .int .i32 _) rfl <| TK (t := 36) rfl (Vb g10) <| zai rfl rfl <| CN <| zam (u := .bool _) (Vb g10) rfl <| CN <| zab zf1 rfl <| CN (SO (v := .bool _) hst ty4 rfl rfl .u1 fun w hst => ?_)
  refine NR <| CN <| zab zdi rfl <| CN <| zae (v := .bool _) ty4 rfl rfl (hst.cellL Q1 rfl) <| MB rfl <| zcO (d := 43) rfl (fun g12 => ?_) (fun g12 => ?_)
  ·refine OM (t := 43) rfl (Vb g12) rfl <| OM (t := 43) rfl (Vb g12) rfl <| CN <| zar (u := .bool _) (Vb g12) rfl <| CN <| zab zdi rfl <| CN (SO (v := .bool _) hst ty4 rfl rfl .u1 fun w hst => ?_)
   refine NL <| zaj <| zax ?_
   exact ih8 (i + 1) _ w (by omega) (by (try dsimp only); rw [zcs 84 (m := 84) rfl g9, zcs 82 (m := 82) rfl g9]; simp only [g10, g12, Bool.true_or, Bool.false_or]; exact hst) (by omega) E4 trivial
  refine TK (t := 43) rfl (Vb g12) <| zad (v := .int .i32 _) rfl <| TK (t := 43) rfl (Vb g12) <| zai rfl rfl <| CN <| zam (u := .bool _) (Vb g12) rfl <| CN <| zab zdi rfl <| CN (SO (v := .bool _) hst ty4 rfl rfl .u1 fun w hst => ?_)
  refine NL <| zaj <| zax ?_
  exact ih8 (i + 1) _ w (by omega) (by (try dsimp only); rw [zcs 84 (m := 84) rfl g9, zcs 82 (m := 82) rfl g9]; simp only [g10, g12, Bool.true_or, Bool.false_or]; exact hst) (by omega) E4 trivial
 obtain rfl : i = fd1.length := by omega
 rw [List.take_length] at hst
 refine CN <| zez hst rfl Q0 g9 <| CN <| Ex (.bool _) rfl rfl <| NL <| SQ <| zal (Vb (rfl : false = _)) <| zaI (id := 0) rfl <| SQ <| SR <| CN <| zbj zdE ty9 rfl rfl De De <| CN <| zae (v := str _) ty9 rfl rfl (hst.cellL Q2 rfl) <| CN <| zeA rfl rfl <| NL <| zaa rfl (fun g13 => ?_) (fun g13 => ?_)
 ·have hf4 : 0 < fd4.length := List.length_pos_iff.2 g13
  have hwb := zmE ((((fd4.getD (0 : Int).toNat 0).toNat : Nat) : Int) - 48)
  refine RG <| CN <| zbj zdE ty9 rfl rfl De De <| CN <| zae (v := str _) ty9 rfl rfl (hst.cellL Q2 rfl) <| CN <| za9 ty9 rfl rfl Om Om <| CN (zn8 rfl rfl ?_)
  first | refine CN (zaH ty5 ty3 rfl zck ?_) | refine CN (zaP ty5 ty3 rfl ?_)
  refine CN <| zab zjS rfl <| CN (SO (v := .int .i64 _) hst ty3 rfl rfl .u1 fun w hst => ?_)
  refine NSR <| CN <| zaA (vs := zbm _ _ _ _ _ _ _ _) zfi rfl rfl rfl (zag (n := 8) (hst.objL Q1) _ rfl) <| CN (SO (v := zaJ _ _ _ _ _ _ _ _) hst zfi rfl rfl .u3 fun w hst => ?_)
  refine AB rfl <| NL <| zat Tryd.func40 rfl (zaM (vs := zbm _ _ _ _ _ _ _ _) rfl zfi rfl rfl (zag (n := 8) (hst.objL Q3) _ rfl)) (TP (v := .bool _) rfl) ?_
  rw [← (zed h0).2]
  have e : ofS op = some (FormL.mk op fd0 (fd1.contains 84) (fd1.contains 82) fd2 fd3 (zgm (fd4.getD 0 0) 48) (zgm (fd5.getD 0 0) 48)) := by
   unfold ofS
   rw [if_neg hemp, hf]
   show some (FormL.mk op fd0 (fd1.contains 84) (fd1.contains 82) fd2 fd3 (if fd4 = [] then 0 else zgm (fd4.getD 0 0) 48) (zgm (fd5.getD 0 0) 48)) = _
   rw [if_neg g13]
  rw [e]
  exact ⟨rfl, hst.pure⟩
 refine zah <| SR <| CN <| zaA (vs := zbm _ _ _ _ _ _ _ _) zfi rfl rfl rfl (zag (n := 8) (hst.objL Q1) _ rfl) <| CN (SO (v := zaJ _ _ _ _ _ _ _ _) hst zfi rfl rfl .u3 fun w hst => ?_)
 refine AB rfl <| NL <| zat Tryd.func40 rfl (zaM (vs := zbm _ _ _ _ _ _ _ _) rfl zfi rfl rfl (zag (n := 8) (hst.objL Q3) _ rfl)) (TP (v := .bool _) rfl) ?_
 rw [← (zed h0).2]
 have e : ofS op = some (FormL.mk op fd0 (fd1.contains 84) (fd1.contains 82) fd2 fd3 0 (zgm (fd5.getD 0 0) 48)) := by
  unfold ofS
  rw [if_neg hemp, hf]
  show some (FormL.mk op fd0 (fd1.contains 84) (fd1.contains 82) fd2 fd3 (if fd4 = [] then 0 else zgm (fd4.getD 0 0) 48) (zgm (fd5.getD 0 0) 48)) = _
  rw [if_pos (Nn g13)]
 rw [e]
 exact ⟨rfl, hst.pure⟩
end Go.SK
namespace Go.SK
open Go Go.Proofs
theorem zp4 : zaB Tryd.prog 103 := ⟨Tryd.f103, _, Tryd.func103, Kr, rfl⟩
theorem ent104 : zaB Tryd.prog 104 := ⟨Tryd.f104, _, Tryd.func104, Kr, rfl⟩
end Go.SK
namespace Go.SK
open Go Go.Proofs
open Go.RowKit
theorem zmc (c : Int) (w : World) : Ret Tryd.prog 83 #[.int .u8 c] w (fun v w' => ∃ b, v = .func (.func 102) #[] #[.pointer (some ⟨b, 0, none⟩)] ∧ St w NoM [Res.row b 5 [.int .u8 c]] [] w') := by
 refine zaq (args := [.int .u8 c]) Tryd.func83 rfl rfl rfl ?_
 have hst := St.init w
 refine SR <| CN <| zbf (v := .int .u8 _) hst rfl rfl fun w b1 hst => CN <| zaf (v := _) rfl <| NSR <| CN <| zbW <| CN <| zaf (v := .func _ _ _) rfl <| NL <| zac Tryd.func83 rfl (TP (v := .func _ _ _) rfl) ?_
 exact ⟨_, rfl, hst⟩
theorem zki {c : Int} {s : zb8} (hs : zgt zcH c = s) (w : World) : Ret Tryd.prog 103 #[.int .u8 c] w fun v w' => v = str s ∧ St w NoM [] [] w' := by
 subst hs; exact zg4 c w
theorem zi9 (c : Int) (h0 : 0 ≤ c) (h1 : c ≤ 255) (bc : Nat) (w : World) (hb : (Res.row bc 5 [.int .u8 c]).holds w) : zp7 Tryd.prog 102 [.pointer (some ⟨bc, 0, none⟩)] (zbi c).length (fun j => [.int .u32 ((zbi c).getD j zc3).n, str ((zbi c).getD j zc3).name]) (· = bc) w := by
 intro yv R S hR hFD hy
 obtain ⟨s, hs⟩ : ∃ s, zgt zcH c = s := ⟨_, rfl⟩
 obtain ⟨hasc, hlen, hl⟩ := zng h0 h1
 rw [hs] at hasc hlen hl
 have hout : (enF s).out.length = (zbi c).length := by rw [hl]; simp
 have hlt : ∀ i (hi : i < s.length), s[i] = 32 → (enF (s.take i)).num = true → (enF (s.take i)).out.length < (zbi c).length := fun i hi h2 h3 => by
  have := (zkS hl hi h2 h3).1; simpa using this
 have hyx : ∀ i (hi : i < s.length), s[i] = 32 → (enF (s.take i)).num = true → ∀ w1, St w (R 0).foot [R (enF (s.take i)).out.length] [] w1 → CallV Tryd.prog yv [.int .u32 (enF (s.take i)).n, str (enF (s.take i)).word] w1 fun v w2 => (v = .bool true ∧ St w1 (R (enF (s.take i)).out.length).foot [R ((enF (s.take i)).out.length + 1)] [] w2) ∨ (v = .bool false ∧ St w1 (R (enF (s.take i)).out.length).foot [S (enF (s.take i)).out.length] [] w2) := fun i hi h2 h3 w1 hw1 => by
  have t := hy _ (hlt i hi h2 h3) w1 hw1
  have ht := (zkS hl hi h2 h3).2
  have hk := hlt i hi h2 h3
  rw [zo1 (d := zc3) hk] at ht
  dsimp only at t
  injection ht with e1 e2
  rwa [e1, e2] at t
 refine zaq (args := [yv, .pointer (some ⟨bc, 0, none⟩)]) Tryd.func102 rfl rfl rfl ?_
 have hst : St w (R 0).foot [R 0] [Res.row bc 5 [.int .u8 c]] w := St.enter1 hR (fun d hd => by cases hd with | head => exact hb | tail _ h => cases h) (fun d hd => by cases hd with | head => exact fun b hb hb2 => hFD b hb hb2 | tail _ h => cases h)
 refine SR <| AU rfl <| AS rfl <| NSR <| AS rfl <| NSR <| AB rfl <| NL <| SQ <| RG ?_
 refine CN <| zae (v := .int .u8 _) ty5 rfl rfl (hst.cellD Q0 rfl) <| CN <| zao (v1 := .int .u8 _) zp4 rfl rfl <| Ret.det (zki hs _) hst fun w hst => CN <| zdD hst ty9 rfl fun w it11 hst => NL <| zan <| zaY <| za4 [(0, _), (11, .pointer (some ⟨_, 0, none⟩))] E2 (fun (i : Nat) => [(3, .int .u32 (enF (s.take i)).n), (5, str (enF (s.take i)).word), (6, .bool (enF (s.take i)).num)]) (fun (i : Nat) => [Res.iter it11 s i, R (enF (s.take i)).out.length]) (fun (i : Nat) => i ≤ s.length) (fun (i : Nat) => s.length - i) (0) hst (Nat.zero_le _) E3 ?_
 intro i f w hst hJ ih1
 refine SQ <| RG ?_
 rcases Nat.lt_or_ge i s.length with g2 | g2
 ·have hc := hasc _ (List.getElem_mem g2)
  have hwl := (zjX s hasc i Om).1
  refine CN (zey hst rfl .u0 (List.getElem?_eq_getElem g2) (hc) fun w hst => ?_)
  refine CN <| Ex (.bool _) rfl rfl <| NL <| SQ <| zas (Vb (rfl : true = _)) <| zah <| zan <| SR <| CN <| Ex (.int .i32 _) rfl rfl <| CN <| zaf (v := .int .i32 _) rfl <| NL <| SQ <| zan <| SQ <| RG ?_
  refine CN <| zad (v := .int .i32 _) rfl <| CN <| zbc rfl rfl <| AB rfl <| NL <| zaa rfl (fun g3 => ?_) (fun g3 => ?_)
  ·refine SR <| MS rfl <| CN <| zad (v := .int .i32 _) rfl <| CN <| zgj ty21 ty9 rfl (by omega) (by omega) <| CN <| zhT rfl rfl (by first | omega | (simp only [List.length_cons, List.length_nil, List.length_append]; omega) | (simp; omega)) <| AS rfl <| NL <| zaI (id := 1) rfl <| zax ?_
   have hstep := zet g2
   have hsp : enF (s.take (i + 1)) = ⟨(enF (s.take i)).n, (enF (s.take i)).word ++ [s[i]], (enF (s.take i)).num, (enF (s.take i)).out⟩ := by rw [hstep]; unfold zc2; rw [if_pos (fun he => g3 (by rw [he]; rfl))]
   exact ih1 (i + 1) _ w (by omega) (by (try dsimp only); rw [hsp]; exact hst) (by omega) E2 ⟨(congrArg (Value.int .u32) (by rw [hsp])), (congrArg str (by rw [hsp]; simp)), (Vb (by rw [hsp])), trivial⟩
  refine SR <| MB rfl <| CN <| zbI rfl <| AB rfl <| NL <| zaN rfl (fun g4 => ?_) (fun g4 => ?_)
  ·refine RG <| MS rfl <| CN <| zao (v1 := str _) ent104 rfl rfl <| Ret.det (zkh _ (zjX s hasc i Om).2 _) hst fun w hst => AU rfl <| NL <| zaj <| SR <| MB rfl <| CN <| zbI rfl <| AB rfl <| NR <| AS rfl <| NL ?_
   refine zaj <| zax ?_
   have hstep := zet g2
   have hd32 : s[i] = 32 := UInt8.toNat_inj.1 (by have : (32 : UInt8).toNat = 32 := rfl; omega)
   have hnu : (enF (s.take i)).num = false := by simpa using g4
   have hsp : enF (s.take (i + 1)) = ⟨zqu (enF (s.take i)).word, [], true, (enF (s.take i)).out⟩ := by rw [hstep]; unfold zc2; rw [if_neg (by simp [hd32]), if_neg (by simp [hnu])]
   exact ih1 (i + 1) _ w (by omega) (by (try dsimp only); rw [hsp]; exact hst) (by omega) E2 ⟨(congrArg (Value.int .u32) (by rw [hsp])), (congrArg str (by rw [hsp])), (Vb (by rw [hsp, hnu]; rfl)), trivial⟩
  refine SR <| MS rfl <| AS rfl <| NSR <| CN <| zad (v := _) rfl <| MU rfl <| MS rfl ?_
  replace hst := hst.pick (.cons .u1 (.cons .u0 .nil))
  have hc32 : s[i] = 32 := UInt8.toNat_inj.1 (by have : (32 : UInt8).toNat = 32 := rfl; omega)
  have hnum : (enF (s.take i)).num = true := by simpa using g4
  refine CN (zg7 (v1 := .int .u32 _) (v2 := str _) rfl rfl rfl ((hyx i Om hc32 hnum _ hst.one).mono fun v w hp => ?_))
  rcases hp with ⟨rfl, hp⟩ | ⟨rfl, hp⟩
  ·replace hst := hst.call1 hp
   clear hp
   refine CN <| zbI rfl <| NL <| zal (Vb (congrArg not (rfl : true = _))) <| zah <| zaj <| SR <| MB rfl <| CN <| zbI rfl <| AB rfl <| NL <| zak [(0, _), (3, .int .u32 _), (6, .bool _), (11, .pointer (some ⟨_, 0, none⟩))] E4 fun f => RG <| AS rfl <| NL ?_
   refine zaj <| zax ?_
   have hstep := zet g2
   have hd32 : s[i] = 32 := UInt8.toNat_inj.1 (by have : (32 : UInt8).toNat = 32 := rfl; omega)
   have hnu : (enF (s.take i)).num = true := by simpa using g4
   have hsp : enF (s.take (i + 1)) = ⟨(enF (s.take i)).n, [], false, (enF (s.take i)).out ++ [((enF (s.take i)).n, (enF (s.take i)).word)]⟩ := by rw [hstep]; unfold zc2; rw [if_neg (by simp [hd32]), if_pos hnu]
   replace hst := hst.pick (.cons .u1 (.cons .u0 .nil))
   exact ih1 (i + 1) _ w (by omega) (by (try dsimp only); rw [hsp]; simp only [List.length_append, List.length_cons, List.length_nil]; exact hst) (by omega) E2 ⟨(congrArg (Value.int .u32) (by rw [hsp])), (congrArg str (by rw [hsp])), (Vb (by rw [hsp, hnu]; rfl)), trivial⟩
  ·replace hst := hst.call1 hp
   clear hp
   refine CN <| zbI rfl <| NL <| zas (Vb (congrArg not (rfl : false = _))) <| zoL Tryd.func102 rfl  ?_
   replace hst := hst.pick (.cons .u0 (.cons .u0 .nil))
   exact .inr ⟨(enF (s.take i)).out.length, hlt i Om hc32 hnum, hst.one⟩
 obtain rfl : i = s.length := by omega
 refine CN <| zez hst rfl Q0 g2 <| CN <| Ex (.bool _) rfl rfl <| NL <| SQ <| zal (Vb (rfl : false = _)) <| zaI (id := 0) rfl <| zdv Tryd.func102 rfl  ?_
 replace hst := hst.pick (.cons .u1 (.cons .u0 .nil))
 rw [List.take_length, hout] at hst
 exact .inl hst.one
end Go.SK
namespace Go.SK
open Go Go.Proofs
theorem ent83 : zaB Tryd.prog 83 := ⟨Tryd.f83, _, Tryd.func83, Kr, rfl⟩
theorem ent102 : zaB Tryd.prog 102 := ⟨Tryd.f102, _, Tryd.func102, Kr, rfl⟩
end Go.SK
namespace Go.SK
open Go Go.Proofs
open Go.RowKit
theorem zn2 (c n : Int) (h0 : 0 ≤ c) (h1 : c ≤ 255) (w : World) : Ret Tryd.prog 60 #[.int .u8 c, .int .u32 n] w (fun v w' => v = nameV (namesL.find? (enN c n)) ∧ St w NoM [] [] w') := by
 refine zaq (args := [.int .u8 c, .int .u32 n]) Tryd.func60 rfl rfl rfl ?_
 have hst := St.init w
 refine SR <| CN <| zbf (v := .int .u32 _) hst rfl rfl fun w b3 hst => CN <| zaz hst ty9 fun w b4 hst => CN <| zaz hst ty4 fun w b5 hst => NL <| SQ <| SR <| MC rfl <| CN (zao (v1 := .int .u8 _) ent83 rfl rfl ((zmc _ _).mono fun v w hp => ?_))
 obtain ⟨bc, rfl, hp⟩ := hp
 replace hst := hst.call0 hp
 clear hp
 refine NL <| zan ?_
 replace hst := hst.addProp (p := ((zbi c).drop 0).find? (fun x => decide (x.n = n)) = (zbi c).find? (fun x => decide (x.n = n))) (rfl)
 replace hst := hst.pick (.cons .u0 (.cons .u2 (.cons .u1 (.cons .u0 (.cons .u0 .nil)))))
 refine zhh (L1 := [_, _, _]) (L2 := [_, _]) (item := (fun j => [.int .u32 ((zbi c).getD j zc3).n, str ((zbi c).getD j zc3).name])) (FD := (· = bc)) (fun i => [Res.prop (((zbi c).drop i).find? (fun x => decide (x.n = n)) = (zbi c).find? (fun x => decide (x.n = n))), Res.row b4 9 [str []], Res.row b5 4 [.bool false]]) (fun i => [Res.prop ((zbi c).find? (fun x => decide (x.n = n)) = some ((zbi c).getD i zc3)), Res.row b4 9 [str ((zbi c).getD i zc3).name], Res.row b5 4 [.bool true]]) (fun _ => .ret) hst rfl rfl ent102 (fun b hb => .inl (by subst hb; exact ⟨_, Q0, rfl⟩)) (fun w1 hw1 => zi9 c h0 h1 bc w1 (hw1.hL _ Q3)) (fun _ _ => rfl) ?_ ?_ ?_
 ·intro i hi w bl br lp hlp hst hk
  have hprop : ((zbi c).drop i).find? (fun x => decide (x.n = n)) = (zbi c).find? (fun x => decide (x.n = n)) := hst.hL _ Q2
  refine SR <| AU rfl <| NR <| AS rfl <| NL <| zls hlp hst .u0 fun w hst => zan <| SR <| MU rfl <| CN <| zae (v := .int .u32 _) zbT rfl rfl (hst.cellD Q1 rfl) <| CN <| zai rfl rfl <| NL ?_
  refine zaa rfl (fun g1 => ?_) (fun g1 => ?_)
  ·refine SR <| MS rfl <| CN (SO (v := str _) hst ty9 rfl rfl .u3 fun w hst => ?_)
   refine CN (SO (v := .bool _) hst ty4 rfl rfl .u4 fun w hst => ?_)
   refine NL <| zoK hst .u0 fun w hst => ?_
   replace hst := hst.addProp (p := (zbi c).find? (fun x => decide (x.n = n)) = some ((zbi c).getD i zc3)) (zpb (d := zc3) hprop hi (Dt g1))
   replace hst := hst.pick (.cons .u1 (.cons .u1 (.cons .u0 (.cons .u1 (.cons .u1 .nil)))))
   exact .inr ⟨rfl, _, hst⟩
  refine zah <| zaj <| zoM hlp hst .u0 fun w hst => ?_
  replace hst := hst.addProp (p := ((zbi c).drop (i + 1)).find? (fun x => decide (x.n = n)) = (zbi c).find? (fun x => decide (x.n = n))) (znw (d := zc3) hprop hi (Df g1))
  replace hst := hst.pick (.cons .u1 (.cons .u1 (.cons .u0 (.cons .u1 (.cons .u1 .nil)))))
  exact .inl ⟨rfl, _, hst⟩
 ·intro w bl br lp hst
  have hall : ((zbi c).drop (zbi c).length).find? (fun x => decide (x.n = n)) = (zbi c).find? (fun x => decide (x.n = n)) := hst.hL _ Q2
  refine zaj <| SR <| CN (SO (v := str _) hst ty9 rfl rfl .u3 fun w hst => ?_)
  refine CN (SO (v := .bool _) hst ty4 rfl rfl .u4 fun w hst => ?_)
  refine NL ?_
  replace hst := hst.pick (.cons .u1 (.cons .u0 (.cons .u0 (.cons .u0 (.cons .u0 (.cons .u0 (.cons .u0 .nil)))))))
  refine zec [br] Tryd.func60 hst fun w hst => ⟨_, res2 rfl (zfC (v := str _) rfl ty9 rfl (hst.cellL Q2 rfl)) (zfC (v := .bool _) rfl ty4 rfl (hst.cellL Q3 rfl)), ?_⟩
  rw [← zgW, zpc hall (Nat.le_refl _)]
  exact ⟨rfl, hst.pure⟩
 ·intro i hi w bl br lp hst
  have hs : (zbi c).find? (fun x => decide (x.n = n)) = some ((zbi c).getD i zc3) := hst.hL _ Q2
  replace hst := hst.pick (.cons .u1 (.cons .u0 (.cons .u0 (.cons .u0 (.cons .u0 (.cons .u0 (.cons .u0 .nil)))))))
  refine zec [br] Tryd.func60 hst fun w hst => ⟨_, res2 rfl (zfC (v := str _) rfl ty9 rfl (hst.cellL Q2 rfl)) (zfC (v := .bool _) rfl ty4 rfl (hst.cellL Q3 rfl)), ?_⟩
  rw [← zgW, hs]
  exact ⟨rfl, hst.pure⟩
end Go.SK
namespace Go.SK
open Go Go.Proofs
theorem zbq : FldF Tryd.prog 158 0 0 := FldF.of (n := 7) Kr
theorem zhw : FldF Tryd.prog 98 4 4 := FldF.of (n := 0) Kr
theorem zdh : FldF Tryd.prog 98 5 5 := FldF.of (n := 0) Kr
theorem zjp : TyF Tryd.prog 158 (.struct (za8 Tryd.prog 158)) 8 80 [.int .u16 0, str [], .bool false, .bool false, str [], str [], .int .i64 0, .int .u8 0] := zaZ Kr Kr
theorem zor : TyF Tryd.prog 179 (.slice 159) 1 24 [.slice none 0 0] := zaZ Kr Kr
theorem zmG : TyF Tryd.prog 159 (.func #[3] #[5] false) 1 8 [.nilFunc] := zaZ Kr Kr
theorem ent105 : zaB Tryd.prog 105 := ⟨Tryd.f105, _, Tryd.func105, Kr, rfl⟩
theorem ent106 : zaB Tryd.prog 106 := ⟨Tryd.f106, _, Tryd.func106, Kr, rfl⟩
theorem zpi : zaB Tryd.prog 40 := ⟨Tryd.f40, _, Tryd.func40, Kr, rfl⟩
theorem zpV : zcz Tryd.prog 158 [(0, 8)] := ⟨za8 Tryd.prog 158, Kr, fun w => Kr⟩
theorem ent84 : zaB Tryd.prog 84 := ⟨Tryd.f84, _, Tryd.func84, Kr, rfl⟩
end Go.SK
namespace Go.SK
open Go Go.Proofs
open Go.RowKit
theorem zi6 (c : Int) (w : World) : Ret Tryd.prog 92 #[.int .u8 c] w (fun v w' => v = .int .u8 (zbd c) ∧ St w NoM [] [] w') := by
 refine zaq (args := [.int .u8 c]) Tryd.func92 rfl rfl rfl ?_
 have hst := St.init w
 refine SR <| AC rfl <| NL <| SQ <| SR <| MC rfl <| NL <| zan <| SR <| CN <| zai rfl rfl <| AB rfl <| NL ?_
 refine zaa rfl (fun g1 => ?_) (fun g1 => ?_)
 ·refine SR <| AC rfl <| NL <| zac Tryd.func92 rfl (TP (v := .int .u8 _) rfl) <| ⟨congrArg (Value.int .u8) (Eq.symm ?_), hst.pure⟩
  unfold zbd
  rw [if_pos g1]
 refine SR <| CN <| zai rfl rfl <| AB rfl <| NL <| zaa rfl (fun g2 => ?_) (fun g2 => ?_)
 ·refine SR <| AC rfl <| NL <| zac Tryd.func92 rfl (TP (v := .int .u8 _) rfl) <| ⟨congrArg (Value.int .u8) (Eq.symm ?_), hst.pure⟩
  unfold zbd
  rw [if_neg g1, if_pos g2]
 refine SR <| CN <| zai rfl rfl <| AB rfl <| NL <| zaa rfl (fun g3 => ?_) (fun g3 => ?_)
 ·refine SR <| AC rfl <| NL <| zac Tryd.func92 rfl (TP (v := .int .u8 _) rfl) <| ⟨congrArg (Value.int .u8) (Eq.symm ?_), hst.pure⟩
  unfold zbd
  rw [if_neg g1, if_neg g2, if_pos g3]
 refine zah <| zaj <| SQ <| SR <| MC rfl <| CN <| zao (v1 := .int .u8 _) zp4 rfl rfl <| Ret.det (zg4 _ _) hst fun w hst => CN <| zeA rfl rfl <| NL <| zaa rfl (fun g4 => ?_) (fun g4 => ?_)
 ·refine SR <| AC rfl <| NL <| zac Tryd.func92 rfl (TP (v := .int .u8 _) rfl) <| ⟨congrArg (Value.int .u8) (Eq.symm ?_), hst.pure⟩
  unfold zbd
  rw [if_neg g1, if_neg g2, if_neg g3, if_pos g4]
 refine zah <| SR <| AC rfl <| NL <| zac Tryd.func92 rfl (TP (v := .int .u8 _) rfl) <| ⟨congrArg (Value.int .u8) (Eq.symm ?_), hst.pure⟩
 unfold zbd
 rw [if_neg g1, if_neg g2, if_neg g3, if_neg g4]
theorem zl8 (fm : FormL) (hf : FOk fm) (i : Int) (h0 : 0 ≤ i) (h1 : i ≤ 9223372036854775807) (w : World) : Ret Tryd.prog 105 #[.agg #[.int .u16 fm.op, str fm.name, .bool fm.ty, .bool fm.res, str fm.fixed, str fm.rest, .int .i64 fm.most, .int .u8 fm.part], .int .i64 i] w (fun v w' => v = .int .u8 (zmp fm i) ∧ St w NoM [] [] w') := by
 refine zaq (args := [.agg #[.int .u16 fm.op, str fm.name, .bool fm.ty, .bool fm.res, str fm.fixed, str fm.rest, .int .i64 fm.most, .int .u8 fm.part], .int .i64 i]) Tryd.func105 rfl rfl rfl ?_
 have hst := St.init w
 obtain ⟨hop, hmost, hfx, hrs, _, _, hf0, hr0⟩ := hf
 refine SR <| CN <| zbf (v := zaJ _ _ _ _ _ _ _ _) hst rfl rfl fun w b2 hst => AC rfl <| NL <| SQ <| SR <| MI rfl <| CN <| zaR rfl rfl <| MB rfl <| zap (d := 7) rfl (fun g1 => ?_) (fun g1 => ?_)
 ·refine OM (t := 7) rfl (Vb (Dt g1)) rfl <| OM (t := 7) rfl (Vb (Dt g1)) rfl <| OM (t := 7) rfl (Vb (Dt g1)) rfl <| OM (t := 7) rfl (Vb (Dt g1)) rfl <| OM (t := 7) rfl (Vb (Dt g1)) rfl <| OM (t := 7) rfl (Vb (Dt g1)) rfl <| CN <| zar (u := .bool _) (Vb (Dt g1)) rfl <| NL <| zas (Vb (rfl : true = _)) <| SR <| AC rfl <| NL <| zac Tryd.func105 rfl (TP (v := .int .u8 _) rfl) <| ⟨congrArg (Value.int .u8) (Eq.symm ?_), hst.pure⟩
  unfold zmp
  first | exact if_pos (by omega) | exact if_neg (by omega)
 refine TK (t := 7) rfl (Vb (Df g1)) <| zad (v := .int .i64 _) rfl <| TK (t := 7) rfl (Vb (Df g1)) <| zab zbq rfl <| TK (t := 7) rfl (Vb (Df g1)) <| zab zhw rfl <| TK (t := 7) rfl (Vb (Df g1)) <| zae (v := str _) ty9 rfl rfl (hst.cellL Q0 rfl) <| TK (t := 7) rfl (Vb (Df g1)) <| zbs (rest := []) ty9 rfl <| TK (t := 7) rfl (Vb (Df g1)) <| za1 rfl rfl <| CN <| zam (u := .bool _) (Vb (Df g1)) rfl <| NL <| zaa rfl (fun g2 => ?_) (fun g2 => ?_)
 ·refine SR <| AC rfl <| NL <| zac Tryd.func105 rfl (TP (v := .int .u8 _) rfl) <| ⟨congrArg (Value.int .u8) (Eq.symm ?_), hst.pure⟩
  unfold zmp
  first | exact if_pos (by omega) | exact if_neg (by omega)
 refine zah <| SR <| CN <| zab zbq rfl <| CN <| zab zhw rfl <| CN <| zae (v := str _) ty9 rfl rfl (hst.cellL Q0 rfl) <| MI rfl <| CN <| za9 ty9 rfl rfl Om Om <| AC rfl <| NL <| zac Tryd.func105 rfl (TP (v := .int .u8 _) rfl) <| ⟨congrArg (Value.int .u8) (Eq.symm ?_), hst.pure⟩
 unfold zmp
 first | exact if_pos (by omega) | exact if_neg (by omega)
theorem znZ (fm : FormL) (hf : FOk fm) (i : Int) (h0 : 0 ≤ i) (h1 : i ≤ 9223372036854775807) (w : World) : Ret Tryd.prog 106 #[.agg #[.int .u16 fm.op, str fm.name, .bool fm.ty, .bool fm.res, str fm.fixed, str fm.rest, .int .i64 fm.most, .int .u8 fm.part], .int .i64 i] w (fun v w' => v = .int .u8 (zfk fm i) ∧ St w NoM [] [] w') := by
 refine zaq (args := [.agg #[.int .u16 fm.op, str fm.name, .bool fm.ty, .bool fm.res, str fm.fixed, str fm.rest, .int .i64 fm.most, .int .u8 fm.part], .int .i64 i]) Tryd.func106 rfl rfl rfl ?_
 have hst := St.init w
 obtain ⟨hop, hmost, hfx, hrs, _, _, hf0, hr0⟩ := hf
 refine SR <| CN <| zbf (v := zaJ _ _ _ _ _ _ _ _) hst rfl rfl fun w b2 hst => AC rfl <| NSR <| MI rfl <| CN <| zab zbq rfl <| CN <| zab zhw rfl <| CN <| zae (v := str _) ty9 rfl rfl (hst.cellL Q0 rfl) <| CN <| zbs (rest := []) ty9 rfl <| CN <| zbA rfl rfl rfl zck <| AI rfl <| NL ?_
 refine SQ <| SR <| MI rfl <| CN <| zaR rfl rfl <| MB rfl <| zap (d := 13) rfl (fun g1 => ?_) (fun g1 => ?_)
 ·refine OM (t := 13) rfl (Vb (Dt g1)) rfl <| OM (t := 13) rfl (Vb (Dt g1)) rfl <| OM (t := 13) rfl (Vb (Dt g1)) rfl <| OM (t := 13) rfl (Vb (Dt g1)) rfl <| CN <| zar (u := .bool _) (Vb (Dt g1)) rfl <| MB rfl <| OM (t := 19) rfl (Vb (rfl : true = _)) rfl <| OM (t := 19) rfl (Vb (rfl : true = _)) rfl <| OM (t := 19) rfl (Vb (rfl : true = _)) rfl <| OM (t := 19) rfl (Vb (rfl : true = _)) rfl <| OM (t := 19) rfl (Vb (rfl : true = _)) rfl <| zaw (t := 24) rfl rfl <| zaw (t := 24) rfl rfl <| zaw (t := 24) rfl rfl <| zaw (t := 24) rfl rfl ?_
  refine zaw (t := 24) rfl rfl <| zaw (t := 24) rfl rfl <| zaw (t := 24) rfl rfl <| zaw (t := 24) rfl rfl <| zaw (t := 24) rfl rfl <| zaw (t := 24) rfl rfl <| OM (t := 19) rfl (Vb (rfl : true = _)) rfl <| CN <| zar (u := .bool _) (Vb (rfl : true = _)) rfl <| NL <| zas (Vb (rfl : true = _)) <| SR <| AC rfl <| NL <| zac Tryd.func106 rfl (TP (v := .int .u8 _) rfl) ?_
  refine ⟨congrArg (Value.int .u8) (Eq.symm ?_), hst.pure⟩
  unfold zfk
  first | exact if_pos (by first | omega | (simp_all <;> omega)) | exact if_neg (by first | omega | (simp_all <;> omega))
 refine TK (t := 13) rfl (Vb (Df g1)) <| zab zbq rfl <| TK (t := 13) rfl (Vb (Df g1)) <| zab zdh rfl <| TK (t := 13) rfl (Vb (Df g1)) <| zae (v := str _) ty9 rfl rfl (hst.cellL Q0 rfl) <| TK (t := 13) rfl (Vb (Df g1)) <| zb7 rfl rfl <| CN <| zam (u := .bool _) (Vb (Df g1)) rfl <| MB rfl <| zap (d := 19) rfl (fun g2 => ?_) (fun g2 => ?_)
 ·refine OM (t := 19) rfl (Vb (Dt g2)) rfl <| OM (t := 19) rfl (Vb (Dt g2)) rfl <| OM (t := 19) rfl (Vb (Dt g2)) rfl <| OM (t := 19) rfl (Vb (Dt g2)) rfl <| OM (t := 19) rfl (Vb (Dt g2)) rfl <| zaw (t := 24) rfl rfl <| zaw (t := 24) rfl rfl <| zaw (t := 24) rfl rfl <| zaw (t := 24) rfl rfl <| zaw (t := 24) rfl rfl <| zaw (t := 24) rfl rfl <| zaw (t := 24) rfl rfl <| zaw (t := 24) rfl rfl <| zaw (t := 24) rfl rfl <| zaw (t := 24) rfl rfl ?_
  refine OM (t := 19) rfl (Vb (Dt g2)) rfl <| CN <| zar (u := .bool _) (Vb (Dt g2)) rfl <| NL <| zak [(1, .int .i64 _), (2, Pp _ _), (36, .bool _)] E3 fun f => zas (Vb (rfl : true = _)) <| SR <| AC rfl <| NL <| zac Tryd.func106 rfl (TP (v := .int .u8 _) rfl) <| ⟨congrArg (Value.int .u8) (Eq.symm ?_), hst.pure⟩
  unfold zfk
  first | exact if_pos (by first | omega | (simp_all <;> omega)) | exact if_neg (by first | omega | (simp_all <;> omega))
 refine TK (t := 19) rfl (Vb (Df g2)) <| zab zbq rfl <| TK (t := 19) rfl (Vb (Df g2)) <| zab zjS rfl <| TK (t := 19) rfl (Vb (Df g2)) <| zae (v := .int .i64 _) ty3 rfl rfl (hst.cellL Q0 rfl) <| TK (t := 19) rfl (Vb (Df g2)) <| zb1 rfl rfl <| TK (t := 19) rfl (Vb (Df g2)) <| zad (v := .bool _) rfl <| zap (d := 24) rfl (fun g3 => ?_) (fun g3 => ?_)
 ·refine TK (t := 24) rfl (Vb (Dt g3)) <| zad (v := .int .i64 _) rfl <| TK (t := 24) rfl (Vb (Dt g3)) <| zab zbq rfl <| TK (t := 24) rfl (Vb (Dt g3)) <| zab zjS rfl <| TK (t := 24) rfl (Vb (Dt g3)) <| zae (v := .int .i64 _) ty3 rfl rfl (hst.cellL Q0 rfl) <| TK (t := 24) rfl (Vb (Dt g3)) <| zab zbq rfl <| TK (t := 24) rfl (Vb (Dt g3)) <| zab zdh rfl <| TK (t := 24) rfl (Vb (Dt g3)) <| zae (v := str _) ty9 rfl rfl (hst.cellL Q0 rfl) <| TK (t := 24) rfl (Vb (Dt g3)) (zbs (rest := []) ty9 rfl ?_)
  first | refine TK (t := 24) rfl (Vb (Dt g3)) (zb6 rfl rfl rfl zck ?_) | refine TK (t := 24) rfl (Vb (Dt g3)) (zpJ rfl rfl Om Om Om Om (fun hm4 hm5 => ?_))
  refine TK (t := 24) rfl (Vb (Dt g3)) <| za1 rfl rfl <| TK (t := 19) rfl (Vb (Df g2)) <| zar (u := .bool _) (Vb (Dt g3)) rfl <| CN <| zam (u := .bool _) (Vb (Df g2)) rfl <| NL <| zak [(1, .int .i64 _), (2, Pp _ _), (36, .bool _)] E3 fun f => zaa rfl (fun g6 => ?_) (fun g6 => ?_)
  ·refine SR <| AC rfl <| NL <| zac Tryd.func106 rfl (TP (v := .int .u8 _) rfl) <| ⟨congrArg (Value.int .u8) (Eq.symm ?_), hst.pure⟩
   unfold zfk
   first | exact if_pos (by first | omega | (simp_all <;> omega)) | exact if_neg (by first | omega | (simp_all <;> omega))
  have hrp : 0 < fm.rest.length := List.length_pos_iff.2 g2
  have hmd := Int.emod_lt_of_pos (i - (fm.fixed.length : Int)) (show (0 : Int) < fm.rest.length by omega)
  have hmn := Int.emod_nonneg (i - (fm.fixed.length : Int)) (show (fm.rest.length : Int) ≠ 0 by omega)
  refine zah <| SQ <| RunD.start [] hst (bs := [0, 1, 3, 0, 0, 16, 48, 112, 248, 511, 1023]) (ds := [some 37, some 38, some 39, some 40, some 41, some 42, some 43, some 44, some 45, some 46, some 4]) ⟨Kr, Kr, Kr⟩ (fun tab7 => ?_)
  refine DO tab7 1 (fun f' L' w' hc=> zab zbq (hc.old (v := Pp _ _) rfl rfl rfl) hc.z) <| DO tab7 2 (fun f' L' w' hc=> zab zdh (hc.d 0 rfl rfl rfl rfl) hc.z) <| DO tab7 3 (fun f' L' w' hc=> zae (v := str _) ty9 rfl (hc.d 1 rfl rfl rfl rfl) (hc.st.cellL (List.mem_append_right _ Q0) rfl) hc.z) <| DO tab7 4 (fun f' L' w' hc=> zad (v := .int .i64 _) (hc.old rfl rfl rfl) hc.z) <| DO tab7 5 (fun f' L' w' hc=> zab zbq (hc.old (v := Pp _ _) rfl rfl rfl) hc.z) <| DO tab7 6 (fun f' L' w' hc=> zab zdh (hc.d 4 rfl rfl rfl rfl) hc.z) <| DO tab7 7 (fun f' L' w' hc=> zae (v := str _) ty9 rfl (hc.d 5 rfl rfl rfl rfl) (hc.st.cellL (List.mem_append_right _ Q0) rfl) hc.z) <| DO tab7 8 (fun _ _ _ hc => zbs (rest := []) ty9 (hc.d 6 rfl rfl rfl rfl) hc.z) ?_
  first | refine DO tab7 9 (fun f' L' w' hc=> zfE (hc.d 3 rfl rfl rfl rfl) (hc.d 7 rfl rfl rfl rfl) Om Om rfl hc.z) ?_ | refine DO tab7 9 (fun _ _ _ hc => zhR (hc.d 3 rfl rfl rfl rfl) (hc.d 7 rfl rfl rfl rfl) Om hc.z) ?_
  refine RunD.fin zaE tab7 hst rfl (fun f8 w R11 hs9 hd10 hr12 hst => ?_)
  obtain ⟨h37_, r0⟩ := hd10 0 37 rfl rfl
  obtain ⟨h38_, r1⟩ := hd10 1 38 rfl rfl
  obtain ⟨h39_, r2⟩ := hd10 2 39 rfl rfl
  obtain ⟨h40_, r3⟩ := hd10 3 40 rfl rfl
  obtain ⟨h41_, r4⟩ := hd10 4 41 rfl rfl
  obtain ⟨h42_, r5⟩ := hd10 5 42 rfl rfl
  obtain ⟨h43_, r6⟩ := hd10 6 43 rfl rfl
  obtain ⟨h44_, r7⟩ := hd10 7 44 rfl rfl
  obtain ⟨h45_, r8⟩ := hd10 8 45 rfl rfl
  simp only [rg9, Fc, Fn, Mc, Mn, r0, r1, r2, r3, r4, r5, r6, r7, r8, Na, An, Ca] at hst
  refine zaL (sl := [(39, str _), (45, .int .i64 _)]) ⟨h39_, h45_, trivial⟩ ?_
  clear hs9 hd10 hr12 tab7
  refine CN <| za9 ty9 rfl rfl Om Om <| AC rfl <| NL <| zac Tryd.func106 rfl (TP (v := .int .u8 _) rfl) <| ⟨congrArg (Value.int .u8) (Eq.symm ?_), hst.pure⟩
  unfold zfk
  first | exact if_pos (by first | omega | (simp_all <;> omega)) | exact if_neg (by first | omega | (simp_all <;> omega))
 refine OM (t := 24) rfl (Vb (Df g3)) rfl <| OM (t := 24) rfl (Vb (Df g3)) rfl <| OM (t := 24) rfl (Vb (Df g3)) rfl <| OM (t := 24) rfl (Vb (Df g3)) rfl <| OM (t := 24) rfl (Vb (Df g3)) rfl <| OM (t := 24) rfl (Vb (Df g3)) rfl <| OM (t := 24) rfl (Vb (Df g3)) rfl <| OM (t := 24) rfl (Vb (Df g3)) rfl <| OM (t := 24) rfl (Vb (Df g3)) rfl <| OM (t := 24) rfl (Vb (Df g3)) rfl <| TK (t := 19) rfl (Vb (Df g2)) <| zam (u := .bool _) (Vb (Df g3)) rfl <| CN <| zam (u := .bool _) (Vb (Df g2)) rfl <| NL <| zak [(1, .int .i64 _), (2, Pp _ _), (36, .bool _)] E3 (fun f => ?_)
 have hrp : 0 < fm.rest.length := List.length_pos_iff.2 g2
 have hmd := Int.emod_lt_of_pos (i - (fm.fixed.length : Int)) (show (0 : Int) < fm.rest.length by omega)
 have hmn := Int.emod_nonneg (i - (fm.fixed.length : Int)) (show (fm.rest.length : Int) ≠ 0 by omega)
 refine zal (Vb (rfl : false = _)) <| zah <| SQ <| RunD.start [] hst (bs := [0, 1, 3, 0, 0, 16, 48, 112, 248, 511, 1023]) (ds := [some 37, some 38, some 39, some 40, some 41, some 42, some 43, some 44, some 45, some 46, some 4]) ⟨Kr, Kr, Kr⟩ (fun tab13 => ?_)
 refine DO tab13 1 (fun f' L' w' hc=> zab zbq (hc.old (v := Pp _ _) rfl rfl rfl) hc.z) <| DO tab13 2 (fun f' L' w' hc=> zab zdh (hc.d 0 rfl rfl rfl rfl) hc.z) <| DO tab13 3 (fun f' L' w' hc=> zae (v := str _) ty9 rfl (hc.d 1 rfl rfl rfl rfl) (hc.st.cellL (List.mem_append_right _ Q0) rfl) hc.z) <| DO tab13 4 (fun f' L' w' hc=> zad (v := .int .i64 _) (hc.old rfl rfl rfl) hc.z) <| DO tab13 5 (fun f' L' w' hc=> zab zbq (hc.old (v := Pp _ _) rfl rfl rfl) hc.z) <| DO tab13 6 (fun f' L' w' hc=> zab zdh (hc.d 4 rfl rfl rfl rfl) hc.z) <| DO tab13 7 (fun f' L' w' hc=> zae (v := str _) ty9 rfl (hc.d 5 rfl rfl rfl rfl) (hc.st.cellL (List.mem_append_right _ Q0) rfl) hc.z) <| DO tab13 8 (fun _ _ _ hc => zbs (rest := []) ty9 (hc.d 6 rfl rfl rfl rfl) hc.z) ?_
 first | refine DO tab13 9 (fun f' L' w' hc=> zfE (hc.d 3 rfl rfl rfl rfl) (hc.d 7 rfl rfl rfl rfl) Om Om rfl hc.z) ?_ | refine DO tab13 9 (fun _ _ _ hc => zhR (hc.d 3 rfl rfl rfl rfl) (hc.d 7 rfl rfl rfl rfl) Om hc.z) ?_
 refine RunD.fin zaE tab13 hst rfl (fun f14 w R17 hs15 hd16 hr18 hst => ?_)
 obtain ⟨h37_, r0⟩ := hd16 0 37 rfl rfl
 obtain ⟨h38_, r1⟩ := hd16 1 38 rfl rfl
 obtain ⟨h39_, r2⟩ := hd16 2 39 rfl rfl
 obtain ⟨h40_, r3⟩ := hd16 3 40 rfl rfl
 obtain ⟨h41_, r4⟩ := hd16 4 41 rfl rfl
 obtain ⟨h42_, r5⟩ := hd16 5 42 rfl rfl
 obtain ⟨h43_, r6⟩ := hd16 6 43 rfl rfl
 obtain ⟨h44_, r7⟩ := hd16 7 44 rfl rfl
 obtain ⟨h45_, r8⟩ := hd16 8 45 rfl rfl
 simp only [rg9, Fc, Fn, Mc, Mn, r0, r1, r2, r3, r4, r5, r6, r7, r8, Na, An, Ca] at hst
 refine zaL (sl := [(39, str _), (45, .int .i64 _)]) ⟨h39_, h45_, trivial⟩ ?_
 clear hs15 hd16 hr18 tab13
 refine CN <| za9 ty9 rfl rfl Om Om <| AC rfl <| NL <| zac Tryd.func106 rfl (TP (v := .int .u8 _) rfl) <| ⟨congrArg (Value.int .u8) (Eq.symm ?_), hst.pure⟩
 unfold zfk
 first | exact if_pos (by first | omega | (simp_all <;> omega)) | exact if_neg (by first | omega | (simp_all <;> omega))
theorem zgg (fm : FormL) (hf : FOk fm) (i : Int) (h1 : i ≤ 9223372036854775807) (w : World) : Ret Tryd.prog 84 #[.agg #[.int .u16 fm.op, str fm.name, .bool fm.ty, .bool fm.res, str fm.fixed, str fm.rest, .int .i64 fm.most, .int .u8 fm.part], .int .i64 i] w (fun v w' => v = .int .u8 (zav fm i) ∧ St w NoM [] [] w') := by
 refine zaq (args := [.agg #[.int .u16 fm.op, str fm.name, .bool fm.ty, .bool fm.res, str fm.fixed, str fm.rest, .int .i64 fm.most, .int .u8 fm.part], .int .i64 i]) Tryd.func84 rfl rfl rfl ?_
 have hst := St.init w
 refine SR <| CN <| zbf (v := zaJ _ _ _ _ _ _ _ _) hst rfl rfl fun w b2 hst => AC rfl <| NL <| SQ <| SR <| MI rfl <| CN <| zaR rfl rfl <| NL <| zaa rfl (fun g1 => ?_) (fun g1 => ?_)
 ·refine SR <| AC rfl <| NL <| zac Tryd.func84 rfl (TP (v := .int .u8 _) rfl) <| ⟨congrArg (Value.int .u8) (Eq.symm ?_), hst.pure⟩
  unfold zav
  exact if_pos (by omega)
 refine zah <| SQ <| SR <| CN <| zaA (vs := zbm _ _ _ _ _ _ _ _) zjp rfl rfl rfl (zag (n := 8) (hst.objL Q0) _ rfl) <| CN <| zbW <| CN <| zaA (vs := zbm _ _ _ _ _ _ _ _) zjp rfl rfl rfl (zag (n := 8) (hst.objL Q0) _ rfl) <| CN <| zbW <| CN (zaG (z0 := [.nilFunc, .nilFunc]) hst zor zmG rfl rfl Kr (.c (v := .func _ _ _) rfl (h := (.c (v := .func _ _ _) rfl (h := .nil)))) fun w b14 hst => ?_)
 refine CN <| zaK (rest := []) zor rfl <| MI rfl <| NL <| zan <| zaY <| SR <| CN <| zaR rfl rfl <| NL <| SQ <| zas (Vb (Dt De)) <| zah <| SQ <| zan <| SQ ?_
 refine RG <| CN <| zbv zor zmG rfl rfl Om Om <| CN <| zae (v := .func _ _ _) zmG rfl rfl (hst.cellL Q0 rfl) <| CN <| zaf (v := .func _ _ _) rfl <| NSR <| CN <| zad (v := .func _ _ _) rfl <| MI rfl <| CN (zcc (v1 := .int .i64 _) rfl rfl (zd0 ent105 ((zl8 fm hf i Om h1 _).mono fun v w hp => ?_)))
 obtain ⟨rfl, hp⟩ := hp
 replace hst := hst.keepc hp
 clear hp
 refine AC rfl <| NL <| zak [(1, .int .i64 _), (7, .int .u8 _), (14, .slice _ _ _), (15, .int .i64 _), (16, .int .i64 _)] E5 fun f => SR <| MC rfl <| CN <| zbc rfl rfl <| NL <| zaa rfl (fun g2 => ?_) (fun g2 => ?_)
 ·refine SR <| MC rfl <| AC rfl <| NL <| zac Tryd.func84 rfl (TP (v := .int .u8 _) rfl) ?_
  exact ⟨congrArg (Value.int .u8) (zlO hf Om g2).symm, hst.pure⟩
 refine zah <| zaj <| RG <| CN <| zaC rfl rfl rfl zck <| MI rfl <| NL <| zax <| SR <| CN <| zaR rfl rfl <| NL <| SQ <| zas (Vb (Dt De)) <| zah <| SQ ?_
 refine zan <| SR <| CN <| zbv zor zmG rfl rfl Om Om <| CN <| zae (v := .func _ _ _) zmG rfl rfl (hst.cellL Q0 rfl) <| CN <| zaf (v := .func _ _ _) rfl <| NSR <| CN <| zad (v := .func _ _ _) rfl <| MI rfl <| CN (zcc (v1 := .int .i64 _) rfl rfl (zd0 ent106 ((znZ fm hf i Om h1 _).mono fun v w hp => ?_)))
 obtain ⟨rfl, hp⟩ := hp
 replace hst := hst.keepc hp
 clear hp
 refine AC rfl <| NSR <| MC rfl <| CN <| zbc rfl rfl <| NL <| zaa rfl (fun g3 => ?_) (fun g3 => ?_)
 ·refine SR <| MC rfl <| AC rfl <| NL <| zac Tryd.func84 rfl (TP (v := .int .u8 _) rfl) ?_
  rw [zfZ hf (by omega) (Nn g2)]
  exact ⟨rfl, hst.pure⟩
 refine zah <| zaj <| RG <| CN <| zaC rfl rfl rfl zck <| MI rfl <| NL <| zax <| SR <| CN <| zaR rfl rfl <| NL <| SQ <| zal (Vb (Df De)) <| zaI (id := 0) rfl <| SQ ?_
 refine RG <| AC rfl <| NL <| zac Tryd.func84 rfl (TP (v := .int .u8 _) rfl) ?_
 rw [zfZ hf (by omega) (Nn g2)]
 exact ⟨congrArg (Value.int .u8) (Nn g3).symm, hst.pure⟩
theorem zgh (op : Int) (h0 : 0 ≤ op) (i : Int) (h1 : i ≤ 9223372036854775807) (w : World) : Ret Tryd.prog 61 #[.int .u16 op, .int .i64 i] w (fun v w' => v = .int .u8 (zav (zaO op) i) ∧ St w NoM [] [] w') := by
 refine zaq (args := [.int .u16 op, .int .i64 i]) Tryd.func61 rfl rfl rfl ?_
 have hst := St.init w
 refine SR <| AC rfl <| NSR <| MH rfl <| CN <| zao (v1 := .int .u16 _) zpi rfl rfl <| Ret.det (zn0 _ Om _) hst fun w hst => CN <| zad (v := .tuple #[zaJ _ _ _ _ _ _ _ _, .bool _]) rfl <| CN <| Ex (zaJ _ _ _ _ _ _ _ _) rfl rfl <| CN <| Ex (.bool _) rfl rfl <| CN <| zaz hst zfi fun w b5 hst => CN (SO (v := zaJ _ _ _ _ _ _ _ _) hst zfi rfl rfl .u0 fun w hst => ?_)
 refine AB rfl <| NSR <| CN <| zaA (vs := zbm _ _ _ _ _ _ _ _) zfi rfl rfl rfl (zag (n := 8) (hst.objL Q0) _ rfl) <| CN (zau zjp zpV (.c (v := zaJ _ _ _ _ _ _ _ _) rfl (h := .nil)) ?_)
 refine MI rfl <| CN <| zaF (v1 := zaJ _ _ _ _ _ _ _ _) (v2 := .int .i64 _) ent84 rfl rfl rfl <| Ret.det (zgg (zaO op) (zef op) i h1 _) hst fun w hst => AC rfl <| NL <| zac Tryd.func61 rfl (TP (v := .int .u8 _) rfl) ?_
 exact ⟨rfl, hst.pure⟩
end Go.SK
namespace Go.SK
open Go Go.Proofs
open Go.RowKit
theorem zhP {op : Int} {fm : FormL} {ob : Bool} (h0 : 0 ≤ op) (hfm : zaO op = fm) (hob : (zcR op).isSome = ob) (w : World) : Ret Tryd.prog 40 #[.int .u16 op] w fun v w' => v = .tuple #[.agg (formC fm).toArray, .bool ob] ∧ St w NoM [] [] w' := by
 subst hfm; subst hob; exact zn0 op h0 w
theorem zg5 {c n : Int} {o : Option NameL} (h : namesL.find? (enN c n) = o) (h0 : 0 ≤ c) (h1 : c ≤ 255) (w : World) : Ret Tryd.prog 60 #[.int .u8 c, .int .u32 n] w fun v w' => v = nameV o ∧ St w NoM [] [] w' := by
 subst h; exact zn2 c n h0 h1 w
end Go.SK
namespace Go.SK
open Go Go.Proofs
theorem ent92 : zaB Tryd.prog 92 := ⟨Tryd.f92, _, Tryd.func92, Kr, rfl⟩
end Go.SK
namespace Go.SK
open Go Go.Proofs
open Go.RowKit
theorem zn1 (op : Int) (h0 : 0 ≤ op) (ks : List Int) (ao : Option Addr) (cp : Nat) (w : World) (hA : (Res.rs ao ks.length 1 (ks.flatMap u8C)).holds w) (hlen : ks.length ≤ 9000000000000000000) : Ret Tryd.prog 95 #[.int .u16 op, .slice ao ks.length cp] w (fun v w' => v = ziI (zdj op ks) ∧ St w NoM [] [] w') := by
 refine zaq (args := [.int .u16 op, .slice ao ks.length cp]) Tryd.func95 rfl rfl rfl ?_
 have hst : St w NoM [] [Res.rs ao ks.length 1 (ks.flatMap u8C)] w := St.init_D hA
 clear hA
 obtain ⟨fm, hfm⟩ : ∃ x, zaO op = x := ⟨_, rfl⟩
 obtain ⟨ob, hob⟩ : ∃ x, (zcR op).isSome = x := ⟨_, rfl⟩
 have hf := zef op
 rw [hfm] at hf
 have hz : ob = false → fm = zg8 := fun e => by subst e; rw [← hfm]; exact zmV hob
 obtain ⟨hop, hmost, hfx, hrs, _, _, _, _⟩ := hf
 refine SR <| AI rfl <| AB rfl <| NSR <| MH rfl <| CN <| zao (v1 := .int .u16 _) zpi rfl rfl <| Ret.det (zhP Om hfm hob _) hst fun w hst => CN <| zad (v := .tuple #[zaJ _ _ _ _ _ _ _ _, .bool _]) rfl <| CN <| Ex (zaJ _ _ _ _ _ _ _ _) rfl rfl <| CN <| Ex (.bool _) rfl rfl <| CN <| zaz hst zfi fun w b6 hst => CN (SO (v := zaJ _ _ _ _ _ _ _ _) hst zfi rfl rfl .u0 fun w hst => ?_)
 refine AB rfl <| NL <| SQ <| SR <| MB rfl <| CN <| zbI rfl <| NL <| zaN rfl (fun g1 => ?_) (fun g1 => ?_)
 ·refine SR <| AI rfl <| AB rfl <| NL <| zat Tryd.func95 rfl (TP (v := .int .i64 _) rfl) (TP (v := .bool _) rfl) ?_
  exact ⟨(congrArg ziI (zqH hob (by simpa using g1))).symm, hst.pure⟩
 refine zah <| SR <| CN <| zaA (vs := zbm _ _ _ _ _ _ _ _) zfi rfl rfl rfl (zag (n := 8) (hst.objL Q0) _ rfl) <| CN (zau zjp zpV (.c (v := zaJ _ _ _ _ _ _ _ _) rfl (h := .nil)) ?_)
 refine CN <| zaz hst zjp fun w b8 hst => CN (SO (v := zaJ _ _ _ _ _ _ _ _) hst zjp rfl rfl .u0 fun w hst => ?_)
 refine NL <| SQ <| SR <| ML rfl <| CN <| zaK (rest := []) zcU rfl <| MI rfl <| NL <| zan <| zaY <| za4 [(1, .slice _ _ _), (8, Pp _ _), (21, .slice _ _ _), (22, .int .i64 _)] E4 (fun (i : Nat) => [(23, .int .i64 (i : Int))]) (fun (i : Nat) => []) (fun (i : Nat) => i ≤ ks.length ∧ zg0 fm i (ks.drop i) = zg0 fm 0 ks) (fun (i : Nat) => ks.length - i) (0) hst ⟨Nat.zero_le _, rfl⟩ ⟨rfl, trivial⟩ ?_
 intro i f w hst hJ ih2
 refine SR <| CN <| zaR rfl rfl <| NL <| SQ <| zaa rfl (fun g3 => ?_) (fun g3 => ?_)
 ·refine zah <| SQ <| zan <| SR <| MI rfl ?_
  obtain ⟨bs4, os5, rfl⟩ := Res.rs_some (hst.hD _ Q0) Om
  refine CN <| zbv zcU ty5 rfl rfl Om Om <| CN <| zae (v := .int .u8 _) ty5 rfl rfl (Res.rs_cell (hst.hD _ Q0) (ze0 (g := u8C) (d := 0) zqd rfl Om)) <| AI rfl <| AC rfl <| NSR <| MC rfl <| CN <| zai rfl rfl <| MB rfl <| zap (d := 30) rfl (fun g6 => ?_) (fun g6 => ?_)
  ·refine OM (t := 30) rfl (Vb (Dt g6)) rfl <| OM (t := 30) rfl (Vb (Dt g6)) rfl <| OM (t := 30) rfl (Vb (Dt g6)) rfl <| OM (t := 30) rfl (Vb (Dt g6)) rfl <| OM (t := 30) rfl (Vb (Dt g6)) rfl <| OM (t := 30) rfl (Vb (Dt g6)) rfl <| CN <| zar (u := .bool _) (Vb (Dt g6)) rfl <| NL <| zas (Vb (rfl : true = _)) <| SR <| MI rfl <| AI rfl <| AB rfl <| NL ?_
   refine zat Tryd.func95 rfl (TP (v := .int .i64 _) rfl) (TP (v := .bool _) rfl) ?_
   exact ⟨(congrArg ziI ((zct hob hfm (by simpa using g1)).trans (ziJ (znL hJ.2 (by omega) (.inl g6))))).symm, hst.pure⟩
  refine TK (t := 30) rfl (Vb (Df g6)) <| zaA (vs := zbm _ _ _ _ _ _ _ _) zjp rfl rfl rfl (zag (n := 8) (hst.objL Q0) _ rfl) <| TK (t := 30) rfl (Vb (Df g6)) <| zad (v := .int .i64 _) rfl <| TK (t := 30) rfl (Vb (Df g6)) (zaF (v1 := zaJ _ _ _ _ _ _ _ _) (v2 := .int .i64 _) ent84 rfl rfl rfl ((zgg fm (by rw [← hfm]; exact zef op) _ (by omega) _).mono fun v w hp => ?_))
  obtain ⟨rfl, hp⟩ := hp
  replace hst := hst.keepc hp
  clear hp
  refine TK (t := 30) rfl (Vb (Df g6)) (zao (v1 := .int .u8 _) ent92 rfl rfl ((zi6 _ _).mono fun v w hp => ?_))
  obtain ⟨rfl, hp⟩ := hp
  replace hst := hst.keepc hp
  clear hp
  refine TK (t := 30) rfl (Vb (Df g6)) <| zad (v := .int .u8 _) rfl <| TK (t := 30) rfl (Vb (Df g6)) <| zbc rfl rfl <| CN <| zam (u := .bool _) (Vb (Df g6)) rfl <| NL <| zaa rfl (fun g7 => ?_) (fun g7 => ?_)
  ·refine SR <| MI rfl <| AI rfl <| AB rfl <| NL <| zat Tryd.func95 rfl (TP (v := .int .i64 _) rfl) (TP (v := .bool _) rfl) ?_
   exact ⟨(congrArg ziI ((zct hob hfm (by simpa using g1)).trans (ziJ (znL hJ.2 (by omega) (.inr g7))))).symm, hst.pure⟩
  refine zah <| zaj <| RG <| CN <| zaC rfl rfl rfl zck <| MI rfl <| NL <| zax ?_
  exact ih2 (i + 1) _ w Om hst (⟨by omega, zpq hJ.2 Om (fun h => h.elim g6 g7)⟩) E4 ⟨(Vi Om), trivial⟩
 refine zaI (id := 0) rfl <| SR <| ML rfl <| CN <| zaK (rest := []) zcU rfl <| CN <| zab zbq rfl <| CN <| zab zhw rfl <| CN <| zae (v := str _) ty9 rfl rfl (hst.cellL Q0 rfl) <| CN <| zbs (rest := []) ty9 rfl <| CN <| zbA rfl rfl rfl zck <| AI rfl <| NL <| SQ <| SQ <| RG ?_
 refine MI rfl <| CN <| zaR rfl rfl <| MB rfl <| zap (d := 49) rfl (fun g8 => ?_) (fun g8 => ?_)
 ·refine OM (t := 49) rfl (Vb (Dt g8)) rfl <| OM (t := 49) rfl (Vb (Dt g8)) rfl <| OM (t := 49) rfl (Vb (Dt g8)) rfl <| OM (t := 49) rfl (Vb (Dt g8)) rfl <| OM (t := 49) rfl (Vb (Dt g8)) rfl <| zaw (t := 54) rfl rfl <| zaw (t := 54) rfl rfl <| zaw (t := 54) rfl rfl <| zaw (t := 54) rfl rfl <| zaw (t := 54) rfl rfl <| zaw (t := 54) rfl rfl <| zaw (t := 54) rfl rfl <| OM (t := 49) rfl (Vb (Dt g8)) rfl <| CN <| zar (u := .bool _) (Vb (Dt g8)) rfl <| NL ?_
  refine zas (Vb (rfl : true = _)) <| SR <| ML rfl <| CN <| zaK (rest := []) zcU rfl <| AI rfl <| AB rfl <| NL <| zat Tryd.func95 rfl (TP (v := .int .i64 _) rfl) (TP (v := .bool _) rfl) ?_
  exact ⟨(congrArg ziI ((zct hob hfm (by simpa using g1)).trans (zf3 (zhK hJ.2 (by omega)) (by simp only [zjH]; exact .inl (by omega))))).symm, hst.pure⟩
 refine TK (t := 49) rfl (Vb (Df g8)) <| zab zbq rfl <| TK (t := 49) rfl (Vb (Df g8)) <| zab zdh rfl <| TK (t := 49) rfl (Vb (Df g8)) <| zae (v := str _) ty9 rfl rfl (hst.cellL Q0 rfl) <| TK (t := 49) rfl (Vb (Df g8)) <| zeA rfl rfl <| TK (t := 49) rfl (Vb (Df g8)) <| zad (v := .bool _) rfl <| zap (d := 54) rfl (fun g9 => ?_) (fun g9 => ?_)
 ·have hrp : 0 < fm.rest.length := List.length_pos_iff.2 g9
  refine TK (t := 54) rfl (Vb (Dt g9)) <| zad (v := .int .i64 _) rfl <| TK (t := 54) rfl (Vb (Dt g9)) <| zab zbq rfl <| TK (t := 54) rfl (Vb (Dt g9)) <| zab zdh rfl <| TK (t := 54) rfl (Vb (Dt g9)) <| zae (v := str _) ty9 rfl rfl (hst.cellL Q0 rfl) <| TK (t := 54) rfl (Vb (Dt g9)) (zbs (rest := []) ty9 rfl ?_)
  first | refine TK (t := 54) rfl (Vb (Dt g9)) (zfE rfl rfl Om Om rfl ?_) | refine TK (t := 54) rfl (Vb (Dt g9)) (zhR rfl rfl Om ?_)
  refine TK (t := 54) rfl (Vb (Dt g9)) <| zbc rfl rfl <| TK (t := 49) rfl (Vb (Df g8)) <| zar (u := .bool _) (Vb (Dt g9)) rfl <| CN <| zam (u := .bool _) (Vb (Df g8)) rfl <| NL <| zak [(1, .slice _ _ _), (63, .bool _)] E2 fun f => zaa rfl (fun g10 => ?_) (fun g10 => ?_)
  ·refine SR <| ML rfl <| CN <| zaK (rest := []) zcU rfl <| AI rfl <| AB rfl <| NL <| zat Tryd.func95 rfl (TP (v := .int .i64 _) rfl) (TP (v := .bool _) rfl) ?_
   exact ⟨(congrArg ziI ((zct hob hfm (by simpa using g1)).trans (zf3 (zhK hJ.2 (by omega)) (by simp only [zjH]; exact .inr ⟨g9, g10⟩)))).symm, hst.pure⟩
  refine zah <| SR <| AI rfl <| AB rfl <| NL <| zat Tryd.func95 rfl (TP (v := .int .i64 _) rfl) (TP (v := .bool _) rfl) ?_
  exact ⟨(congrArg ziI ((zct hob hfm (by simpa using g1)).trans (zfB (zhK hJ.2 (by omega)) (by simp only [zjH]; exact fun h => h.elim (by omega) (fun h => g10 h.2))))).symm, hst.pure⟩
 refine OM (t := 54) rfl (Vb (Df g9)) rfl <| OM (t := 54) rfl (Vb (Df g9)) rfl <| OM (t := 54) rfl (Vb (Df g9)) rfl <| OM (t := 54) rfl (Vb (Df g9)) rfl <| OM (t := 54) rfl (Vb (Df g9)) rfl <| OM (t := 54) rfl (Vb (Df g9)) rfl <| OM (t := 54) rfl (Vb (Df g9)) rfl <| TK (t := 49) rfl (Vb (Df g8)) <| zam (u := .bool _) (Vb (Df g9)) rfl <| CN <| zam (u := .bool _) (Vb (Df g8)) rfl <| NL <| zak [(1, .slice _ _ _), (63, .bool _)] E2 fun f => zal (Vb (rfl : false = _)) <| zah <| SQ <| RG ?_
 refine AI rfl <| AB rfl <| NL <| zat Tryd.func95 rfl (TP (v := .int .i64 _) rfl) (TP (v := .bool _) rfl) ?_
 exact ⟨(congrArg ziI ((zct hob hfm (by simpa using g1)).trans (zfB (zhK hJ.2 (by omega)) (by simp only [zjH]; exact fun h => h.elim (by omega) (fun h => g9 h.1))))).symm, hst.pure⟩
end Go.SK
namespace Go.SK
open Go Go.Proofs
theorem zeq : FldF Tryd.prog 102 0 0 := FldF.of (n := 0) Kr
theorem zcY : FldF Tryd.prog 102 1 1 := FldF.of (n := 0) Kr
theorem zqJ : zaB Tryd.prog 42 := ⟨Tryd.f42, _, Tryd.func42, Kr, rfl⟩
theorem zqL : zaB Tryd.prog 19 := ⟨Tryd.f19, _, Tryd.func19, Kr, rfl⟩
theorem zhB : FldF Tryd.prog 102 2 2 := FldF.of (n := 0) Kr
theorem ent61 : zaB Tryd.prog 61 := ⟨Tryd.f61, _, Tryd.func61, Kr, rfl⟩
theorem ent60 : zaB Tryd.prog 60 := ⟨Tryd.f60, _, Tryd.func60, Kr, rfl⟩
theorem zqM : zaB Tryd.prog 18 := ⟨Tryd.f18, _, Tryd.func18, Kr, rfl⟩
end Go.SK
namespace Go.SK
open Go Go.Proofs
open Go.RowKit
theorem zge (s : Tx) (w : World) : Ret Tryd.prog 18 #[str s] w (fun v w' => v = .agg #[.int .u8 1, str s, .int .i64 0] ∧ St w NoM [] [] w') := by
 refine zaq (args := [str s]) Tryd.func18 rfl rfl rfl ?_
 have hst := St.init w
 refine SR <| CN <| zaz hst zds fun w b2 hst => NSR <| MS rfl <| CN (zau zds zmQ (.c (v := .int .u8 _) rfl (h := (.c (v := str _) rfl (h := .nil)))) ?_)
 refine CN (SO (v := zgT _ _ _) hst zds rfl rfl .u0 fun w hst => ?_)
 refine NL <| zac Tryd.func18 rfl (zaM (vs := zo4 _ _ _) rfl zds rfl rfl (zag (n := 3) (hst.objL Q0) _ rfl)) ?_
 exact ⟨rfl, hst.pure⟩
theorem zpz (u : Nat) (hu : u < 4294967296) (w : World) (hG : LxG.holds w) : Ret Tryd.prog 42 #[.int .u32 (u : Int)] w (fun v w' => v = .agg #[.int .u8 2, str (Lib.decDigits u), .int .i64 0] ∧ St w NoM [] [] w') := by
 refine zaq (args := [.int .u32 (u : Int)]) Tryd.func42 rfl rfl rfl ?_
 have hst : St w NoM [] [LxG] w := St.init_Ds (by simp only [List.forall_mem_cons]; exact ⟨hG, fun _ h => absurd h List.not_mem_nil⟩)
 refine SR <| CN <| zaz hst zds fun w b2 hst => NSR <| MU rfl ?_
 first | refine CN (zaH zbT zc8 rfl zeF ?_) | refine CN (zaP zbT zc8 rfl ?_)
 refine CN <| zaF (v1 := .int .u64 _) (v2 := .int .i64 _) zqK rfl rfl rfl <| Ret.det (zkf u hu _ (hst.hD _ Q0)) hst fun w hst => CN (zau zds zmQ (.c (v := .int .u8 _) rfl (h := (.c (v := str _) rfl (h := .nil)))) ?_)
 refine CN (SO (v := zgT _ _ _) hst zds rfl rfl .u0 fun w hst => ?_)
 refine NL <| zac Tryd.func42 rfl (zaM (vs := zo4 _ _ _) rfl zds rfl rfl (zag (n := 3) (hst.objL Q0) _ rfl)) ?_
 exact ⟨rfl, hst.pure⟩
theorem zj7 (n : Int) (h0 : 0 ≤ n) (h1 : n < 4294967296) (w : World) (hG : LxG.holds w) : Ret Tryd.prog 42 #[.int .u32 n] w (fun v w' => v = .agg #[.int .u8 2, str (zcy n), .int .i64 0] ∧ St w NoM [] [] w') := by
 obtain ⟨u, rfl⟩ := Int.eq_ofNat_of_zero_le h0
 exact zpz u Om w hG
theorem zi1 (u : Nat) (hu : u < 4294967296) (w : World) (hG : LxG.holds w) : Ret Tryd.prog 19 #[.int .u32 (u : Int)] w (fun v w' => v = .agg #[.int .u8 3, str (Lib.decDigits u), .int .i64 0] ∧ St w NoM [] [] w') := by
 refine zaq (args := [.int .u32 (u : Int)]) Tryd.func19 rfl rfl rfl ?_
 have hst : St w NoM [] [LxG] w := St.init_Ds (by simp only [List.forall_mem_cons]; exact ⟨hG, fun _ h => absurd h List.not_mem_nil⟩)
 refine SR <| CN <| zaz hst zds fun w b2 hst => NSR <| MU rfl ?_
 first | refine CN (zaH zbT zc8 rfl zeF ?_) | refine CN (zaP zbT zc8 rfl ?_)
 refine CN <| zaF (v1 := .int .u64 _) (v2 := .int .i64 _) zqK rfl rfl rfl <| Ret.det (zkf u hu _ (hst.hD _ Q0)) hst fun w hst => CN (zau zds zmQ (.c (v := .int .u8 _) rfl (h := (.c (v := str _) rfl (h := .nil)))) ?_)
 refine CN (SO (v := zgT _ _ _) hst zds rfl rfl .u0 fun w hst => ?_)
 refine NL <| zac Tryd.func19 rfl (zaM (vs := zo4 _ _ _) rfl zds rfl rfl (zag (n := 3) (hst.objL Q0) _ rfl)) ?_
 exact ⟨rfl, hst.pure⟩
theorem zdW (n : Int) (h0 : 0 ≤ n) (h1 : n < 4294967296) (w : World) (hG : LxG.holds w) : Ret Tryd.prog 19 #[.int .u32 n] w (fun v w' => v = .agg #[.int .u8 3, str (zcy n), .int .i64 0] ∧ St w NoM [] [] w') := by
 obtain ⟨u, rfl⟩ := Int.eq_ofNat_of_zero_le h0
 exact zi1 u Om w hG
theorem zpA (op : Int) (k : Nat) (a : ArgP) (w : World) (hG : LxG.holds w) (h0 : 0 ≤ a.n) (h1 : a.n < 4294967296) (hop : 0 ≤ op) (hk : k ≤ 9000000000000000000) : Ret Tryd.prog 43 #[.int .u16 op, .int .i64 (k : Int), .agg #[.int .u8 a.kind, .int .u32 a.n, str a.s]] w (fun v w' => v = .agg #[.int .u8 (zd2 (zav (zaO op) (k : Int)) a).kind, str (zd2 (zav (zaO op) (k : Int)) a).text, .int .i64 (zd2 (zav (zaO op) (k : Int)) a).at_] ∧ St w NoM [] [] w') := by
 refine zaq (args := [.int .u16 op, .int .i64 (k : Int), .agg #[.int .u8 a.kind, .int .u32 a.n, str a.s]]) Tryd.func43 rfl rfl rfl ?_
 have hst : St w NoM [] [LxG] w := St.init_Ds (by simp only [List.forall_mem_cons]; exact ⟨hG, fun _ h => absurd h List.not_mem_nil⟩)
 refine SR <| CN <| zbf (v := zlW _ _ _) hst rfl rfl fun w b5 hst => CN <| zaz hst zds fun w b6 hst => NL <| SQ <| SR <| CN <| zab zeq rfl <| CN <| zae (v := .int .u8 _) ty5 rfl rfl (hst.cellL Q1 rfl) <| NL <| zan <| SR <| CN (zai rfl rfl ?_)
 refine AB rfl <| NL <| zaa rfl (fun g1 => ?_) (fun g1 => ?_)
 ·refine SR <| CN <| zab zcY rfl <| CN <| zae (v := .int .u32 _) zbT rfl rfl (hst.cellL Q1 rfl) <| CN <| zao (v1 := .int .u32 _) zqJ rfl rfl <| Ret.det (zj7 a.n h0 h1 _ (hst.hD _ Q0)) hst fun w hst => CN (SO (v := zgT _ _ _) hst zds rfl rfl .u0 fun w hst => ?_)
  refine NL <| zac Tryd.func43 rfl (zaM (vs := zo4 _ _ _) rfl zds rfl rfl (zag (n := 3) (hst.objL Q0) _ rfl)) ?_
  rw [argK1 g1]
  exact ⟨rfl, hst.pure⟩
 refine SR <| CN <| zai rfl rfl <| AB rfl <| NL <| zaa rfl (fun g2 => ?_) (fun g2 => ?_)
 ·refine SR <| CN <| zab zcY rfl <| CN <| zae (v := .int .u32 _) zbT rfl rfl (hst.cellL Q1 rfl) <| CN <| zao (v1 := .int .u32 _) zqL rfl rfl <| Ret.det (zdW a.n h0 h1 _ (hst.hD _ Q0)) hst fun w hst => CN (SO (v := zgT _ _ _) hst zds rfl rfl .u0 fun w hst => ?_)
  refine NL <| zac Tryd.func43 rfl (zaM (vs := zo4 _ _ _) rfl zds rfl rfl (zag (n := 3) (hst.objL Q0) _ rfl)) ?_
  rw [argK2 g1 g2]
  exact ⟨rfl, hst.pure⟩
 refine SR <| CN <| zai rfl rfl <| AB rfl <| NL <| zaa rfl (fun g3 => ?_) (fun g3 => ?_)
 ·refine SR <| CN <| zab zhB rfl <| CN <| zae (v := str _) ty9 rfl rfl (hst.cellL Q1 rfl) <| CN (zau zds zmQ (.c (v := .int .u8 _) rfl (h := (.c (v := str _) rfl (h := .nil)))) ?_)
  refine CN (SO (v := zgT _ _ _) hst zds rfl rfl .u0 fun w hst => ?_)
  refine NL <| zac Tryd.func43 rfl (zaM (vs := zo4 _ _ _) rfl zds rfl rfl (zag (n := 3) (hst.objL Q0) _ rfl)) ?_
  rw [argK3 g1 g2 g3]
  exact ⟨rfl, hst.pure⟩
 refine zah <| zaj <| SQ <| RunD.start [] hst (bs := [0, 0, 3, 0, 8, 31, 63, 127, 127, 255, 1023]) (ds := [some 27, some 28, some 29, some 30, some 31, some 32, some 26, some 33, some 34, some 7, some 8]) ⟨Kr, Kr, Kr⟩ (fun tab4 => ?_)
 refine DO tab4 1 (fun f' L' w' hc=> zad (v := .int .u16 _) (hc.old rfl rfl rfl) hc.z) <| DO tab4 2 (fun f' L' w' hc=> zad (v := .int .i64 _) (hc.old rfl rfl rfl) hc.z) <| DO tab4 3 (fun f' L' w' hc=> zaF (v1 := .int .u16 _) (v2 := .int .i64 _) ent61 rfl (hc.d 0 rfl rfl rfl rfl) (hc.d 1 rfl rfl rfl rfl) ((zgh op hop (k : Int) Om _).mono fun v w hp => ⟨[], ⟨hp.1, rfl⟩, hc.st.keepc hp.2⟩)) <| DO tab4 4 (fun f' L' w' hc=> zab zcY (hc.old (v := Pp _ _) rfl rfl rfl) hc.z) <| DO tab4 5 (fun f' L' w' hc=> zae (v := .int .u32 _) zbT rfl (hc.d 3 rfl rfl rfl rfl) (hc.st.cellL (List.mem_append_right _ Q1) rfl) hc.z) <| DO tab4 6 (fun f' L' w' hc=> zaF (v1 := .int .u8 _) (v2 := .int .u32 _) ent60 rfl (hc.d 2 rfl rfl rfl rfl) (hc.d 4 rfl rfl rfl rfl) ((zg5 (o := namesL.find? (enN (zav (zaO op) (k : Int)) a.n)) rfl (zcb _ _).1 (zcb _ _).2 _).mono fun v w hp => ⟨[], ⟨hp.1, rfl⟩, hc.st.keepc hp.2⟩)) <| DO tab4 7 (fun f' L' w' hc=> zad (v := .tuple #[str _, .bool _]) (hc.d 5 rfl rfl rfl rfl) hc.z) <| DO tab4 8 (fun f' L' w' hc=> zdZ (v := str _) (hc.d 6 rfl rfl rfl rfl) rfl hc.z) <| DO tab4 9 (fun f' L' w' hc=> zdZ (v := .bool _) (hc.d 6 rfl rfl rfl rfl) rfl hc.z) <| DO tab4 10 (fun _ _ _ hc => zaf (v := str _) (hc.d 7 rfl rfl rfl rfl) hc.z) <| RunD.fin zaE tab4 hst rfl (fun f5 w R8 hs6 hd7 hr9 hst => ?_)
 obtain ⟨h27_, r0⟩ := hd7 0 27 rfl rfl
 obtain ⟨h28_, r1⟩ := hd7 1 28 rfl rfl
 obtain ⟨h29_, r2⟩ := hd7 2 29 rfl rfl
 obtain ⟨h30_, r3⟩ := hd7 3 30 rfl rfl
 obtain ⟨h31_, r4⟩ := hd7 4 31 rfl rfl
 obtain ⟨h32_, r5⟩ := hd7 5 32 rfl rfl
 obtain ⟨h26_, r6⟩ := hd7 6 26 rfl rfl
 obtain ⟨h33_, r7⟩ := hd7 7 33 rfl rfl
 obtain ⟨h34_, r8⟩ := hd7 8 34 rfl rfl
 obtain ⟨h7_, r9⟩ := hd7 9 7 rfl rfl
 simp only [rg10, Fc, Fn, Mc, Mn, r0, r1, r2, r3, r4, r5, r6, r7, r8, r9, Na, An, Ca] at hst
 refine zaL (sl := [(6, Pp _ _), (7, str _), (34, .bool _)]) ⟨(hs6 6 rfl).trans rfl, h7_, h34_, trivial⟩ ?_
 clear hs6 hd7 hr9 tab4
 refine AB rfl <| NL <| zak [(6, Pp _ _), (7, str _)] E2 fun f => SR <| MS rfl <| CN <| zao (v1 := str _) zqM rfl rfl <| Ret.det (zge _ _) hst fun w hst => CN (SO (v := zgT _ _ _) hst zds rfl rfl .u0 fun w hst => ?_)
 refine NL <| zac Tryd.func43 rfl (zaM (vs := zo4 _ _ _) rfl zds rfl rfl (zag (n := 3) (hst.objL Q0) _ rfl)) ?_
 rw [argK4 g1 g2 g3]
 exact ⟨rfl, hst.pure⟩
theorem zfD (b : Nat) (ao : Option Addr) (cp : Nat) (l : List TokL) (bm : Nat) (ms : List TokL) (w : World) (hR : (VsR 39 43 3 zfa b ao cp l).holds w) (hM : (Res.row bm 43 (ms.flatMap zfa)).holds w) (hRM : Apart (VsR 39 43 3 zfa b ao cp l) (Res.row bm 43 (ms.flatMap zfa))) (hl : (l.length + ms.length) * 32 ≤ 140737488355328) : Ret Tryd.prog 41 #[.slice (some ⟨bm, 0, none⟩) ms.length ms.length, .pointer (some ⟨b, 0, none⟩)] w (fun v w' => ∃ ao' cp', v = .tuple #[] ∧ St w (VsR 39 43 3 zfa b ao cp l).foot [VsR 39 43 3 zfa b ao' cp' (l ++ ms)] [] w') := by
 refine zaq (args := [.slice (some ⟨bm, 0, none⟩) ms.length ms.length, .pointer (some ⟨b, 0, none⟩)]) Tryd.func41 rfl rfl rfl ?_
 have hst : St w (VsR 39 43 3 zfa b ao cp l).foot [VsR 39 43 3 zfa b ao cp l] [Res.row bm 43 (ms.flatMap zfa)] w := St.enter1 hR (by simp only [List.forall_mem_cons]; exact ⟨hM, fun _ h => absurd h List.not_mem_nil⟩) (by simp only [List.forall_mem_cons]; exact ⟨hRM, fun _ h => absurd h List.not_mem_nil⟩)
 replace hst : St _ _ [_, _] _ _ := hst.unpack
 have hml : (ms.flatMap zfa).length = ms.length * 3 := zb4 (es := 3) zkw ms
 have hmo : (ms.flatMap zfa).all zcr = true := zjV (fun _ => rfl) _
 refine RG <| CN <| zae (v := .slice _ _ _) zmn rfl rfl (hst.cellL Q0 rfl) <| ML rfl <| CN <| zaW (news := ms.flatMap zfa) hst zmn zds rfl rfl .u1 rfl rfl hml (zag (n := ms.length * 3) (hst.objD Q0) _ (by rw [List.drop_zero, ← hml, List.take_length])) hmo rfl (by omega) fun w aoN cpN hst => CN (SO (v := .slice _ _ _) hst zmn rfl rfl .u1 fun w hst => ?_)
 refine NL <| zdv Tryd.func41 rfl  ?_
 replace hst := hst.pick (.cons .u1 (.cons .u0 .nil))
 exact ⟨_, _, rfl, VsR.app hst.noD⟩
end Go.SK
namespace Go.SK
open Go Go.Proofs
theorem zeX : FldF Tryd.prog 67 0 0 := FldF.of (n := 0) Kr
theorem zpS : TyF Tryd.prog 64 (.int .u16) 1 2 [.int .u16 0] := zaZ Kr Kr
theorem zqF : FldF Tryd.prog 98 1 1 := FldF.of (n := 0) Kr
theorem zph : zaB Tryd.prog 41 := ⟨Tryd.f41, _, Tryd.func41, Kr, rfl⟩
theorem zbZ : FldF Tryd.prog 67 3 3 := FldF.of (n := 0) Kr
theorem zd6 : TyF Tryd.prog 65 (.slice 102) 1 24 [.slice none 0 0] := zaZ Kr Kr
theorem zbJ : TyF Tryd.prog 102 (.struct (za8 Tryd.prog 102)) 3 24 [.int .u8 0, .int .u32 0, str []] := zaZ Kr Kr
theorem ent43 : zaB Tryd.prog 43 := ⟨Tryd.f43, _, Tryd.func43, Kr, rfl⟩
theorem zhy : FldF Tryd.prog 67 1 1 := FldF.of (n := 0) Kr
theorem zhx : FldF Tryd.prog 67 2 2 := FldF.of (n := 0) Kr
end Go.SK
