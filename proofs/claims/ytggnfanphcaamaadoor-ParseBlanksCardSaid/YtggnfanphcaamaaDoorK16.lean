/- A part of the proof: contracts of functions and plain laws; each theorem says its own conditions. -/
import Derived.Test.YtggnfanphcaamaaDoorK3
import Derived.Test.YtggnfanphcaamaaDoorK15
import Derived.Test.YtggnfanphcaamaaDoorK2
import Derived.Test.YtggnfanphcaamaaDoorK14
import Derived.Test.YtggnfanphcaamaaDoorK1
import Derived.Test.YtggnfanphcaamaaDoorK13
/- The tokens of a tree, and that they are parsed as the tree: expressions. -/
namespace ParS
open Sx LexS
set_option linter.unusedVariables false
set_option linter.unusedSimpArgs false

section
variable (k op wd : Int) (nm : List UInt8) (kids : List Ex) (a : Int)
end
/-! ### how far readers go -/
theorem flatE_len (u : List Tok → PR Ex) (hu : Goes u) : ∀ (n : Nat) (r : List Tok) (l : List Flat) (r' : List Tok), flatE u n r = .ok (l, r') → r'.length ≤ r.length
  | 0, r, l, r', h => by simp [flatE] at h
  | n + 1, r, l, r', h => by
    simp only [flatE] at h
    cases hop : opT (here r) with
    | none => rw [hop] at h; cases h; exact Nat.le_refl _
    | some op =>
      rw [hop] at h
      simp only at h
      cases hx : u r.tail with
      | error f => rw [hx] at h; cases h
      | ok p =>
        obtain ⟨x, r1⟩ := p
        rw [hx] at h
        simp only at h
        cases hf : flatE u n r1 with
        | error f => rw [hf] at h; cases h
        | ok q =>
          obtain ⟨l1, r2⟩ := q
          rw [hf] at h
          cases h
          have := flatE_len u hu n r1 l1 _ hf
          have := hu _ _ _ hx
          have := tail_lt (opT_ne hop)
          omega
theorem exprW_goes {u : List Tok → PR Ex} (hu : Goes u) : Goes (exprW u) := by
  intro r x r' h
  unfold exprW at h
  cases hx : u r with
  | error f => rw [hx] at h; cases h
  | ok p =>
    obtain ⟨y, r1⟩ := p
    rw [hx] at h
    simp only at h
    cases hf : flatE u (r1.length + 1) r1 with
    | error f => rw [hf] at h; cases h
    | ok q =>
      obtain ⟨l1, r2⟩ := q
      rw [hf] at h
      cases h
      have := flatE_len u hu _ _ _ _ hf
      have := hu _ _ _ hx
      omega
theorem leaf_goes (e : Nat) : Goes (leafP e) := by
  intro r x r' h
  unfold leafP at h
  split at h
  · rename_i hk; cases h; exact tail_lt (kind_ne hk (by decide))
  · split at h
    · rename_i hk; cases h; exact tail_lt (kind_ne hk (by decide))
    · cases h
theorem unary_goes (e : Nat) : ∀ m, Goes (unaryP e m)
  | 0 => by
    intro r x r' h
    simp only [unaryP] at h
    split at h
    · cases h
    · exact leaf_goes e r x r' h
  | m + 1 => by
    intro r x r' h
    simp only [unaryP] at h
    split at h
    · rename_i hi
      have h0 := tail_lt (inner_ne hi)
      split at h
      · cases hx : exprW (unaryP e m) r.tail with
        | error f => rw [hx] at h; cases h
        | ok p =>
          obtain ⟨y, r1⟩ := p
          rw [hx] at h
          simp only at h
          have h1 := exprW_goes (unary_goes e m) _ _ _ hx
          cases hw : want e [41] r1 with
          | error f => rw [hw] at h; cases h
          | ok r2 =>
            rw [hw] at h
            cases h
            obtain ⟨h2, rfl⟩ := want_ok hw
            have := tail_lt (isT_ne h2)
            omega
      · cases hx : unaryP e m r.tail with
        | error f => rw [hx] at h; cases h
        | ok p =>
          obtain ⟨y, r1⟩ := p
          rw [hx] at h
          cases h
          have h1 := unary_goes e m _ _ _ hx
          omega
    · exact leaf_goes e r x r' h
section
variable {e : Nat}
end
end ParS


/- The parser does not see places: tokens that are one but for places give trees that are one but for places. -/
namespace ParS
open Sx LexS
set_option linter.unusedVariables false
set_option linter.unusedSimpArgs false

def trp (t : Tok) : Nat × List UInt8 × Nat := (t.kind, t.text, t.word)
def STk (a b : List Tok) : Prop := a.map trp = b.map trp
theorem STk.symm {a b : List Tok} (h : STk a b) : STk b a := Eq.symm h
theorem STk.len {a b : List Tok} (h : STk a b) : a.length = b.length := by simpa using congrArg List.length h
theorem STk.tail {a b : List Tok} (h : STk a b) : STk a.tail b.tail := by
  unfold STk at *
  rw [List.map_tail, List.map_tail, h]
theorem STk.here {a b : List Tok} (h : STk a b) : (here a).kind = (here b).kind ∧ (here a).text = (here b).text ∧ (here a).word = (here b).word := by
  cases a with
  | nil => cases b with
    | nil => exact ⟨rfl, rfl, rfl⟩
    | cons y s => simp [STk] at h
  | cons x r => cases b with
    | nil => simp [STk] at h
    | cons y s =>
      simp only [STk, List.map_cons, List.cons.injEq, trp, Prod.mk.injEq] at h
      exact ⟨h.1.1, h.1.2.1, h.1.2.2⟩
theorem STk.isT {a b : List Tok} (h : STk a b) (s : List UInt8) : isT s a = isT s b := by unfold ParS.isT; rw [h.here.1, h.here.2.1]
theorem STk.opT {a b : List Tok} (h : STk a b) : opT (ParS.here a) = opT (ParS.here b) := by unfold ParS.opT; rw [h.here.1, h.here.2.1]
theorem STk.formT {a b : List Tok} (h : STk a b) (s : List UInt8) : formT (ParS.here a) s = formT (ParS.here b) s := by unfold ParS.formT; rw [h.here.1, h.here.2.1]
theorem STk.inner {a b : List Tok} (h : STk a b) : innerT a = innerT b := by unfold innerT; rw [h.isT, h.isT, h.isT]

/-- the same answer, but for places -/
def Rl {α : Type} (R : α → α → Prop) : PR α → PR α → Prop
  | .error f, .error g => f.2 = g.2
  | .ok (x, r), .ok (y, s) => R x y ∧ STk r s
  | _, _ => False
theorem Rl.cases {α : Type} {R : α → α → Prop} {p q : PR α} (h : Rl R p q) : (∃ f g, p = .error f ∧ q = .error g ∧ f.2 = g.2) ∨ ∃ x r y s, p = .ok (x, r) ∧ q = .ok (y, s) ∧ R x y ∧ STk r s := by
  cases p with
  | error f => cases q with
    | error g => exact .inl ⟨f, g, rfl, rfl, h⟩
    | ok b => exact h.elim
  | ok a => cases q with
    | error g => exact h.elim
    | ok b => exact .inr ⟨a.1, a.2, b.1, b.2, rfl, rfl, h.1, h.2⟩
/-- for answers that are a rest alone -/
def Rw : Except Flt (List Tok) → Except Flt (List Tok) → Prop
  | .error f, .error g => f.2 = g.2
  | .ok r, .ok s => STk r s
  | _, _ => False
theorem Rw.cases {p q : Except Flt (List Tok)} (h : Rw p q) : (∃ f g, p = .error f ∧ q = .error g ∧ f.2 = g.2) ∨ ∃ r s, p = .ok r ∧ q = .ok s ∧ STk r s := by
  cases p with
  | error f => cases q with
    | error g => exact .inl ⟨f, g, rfl, rfl, h⟩
    | ok b => exact h.elim
  | ok a => cases q with
    | error g => exact h.elim
    | ok b => exact .inr ⟨a, b, rfl, rfl, h⟩
section
variable {e e' : Nat}
theorem want_st {a b : List Tok} (h : STk a b) (s : List UInt8) : Rw (want e s a) (want e' s b) := by
  unfold want
  rw [h.isT]
  split
  · exact h.tail
  · exact rfl
def rTok (t u : Tok) : Prop := t.kind = u.kind ∧ t.text = u.text ∧ t.word = u.word
def rE (x y : Ex) : Prop := sameE x y = true
def rS (x y : Sm) : Prop := sameS x y = true
def rD (x y : Dc) : Prop := sameD x y = true
def rT (x y : Th) : Prop := sameT x y = true
def rL {α : Type} (f : α → α → Bool) (x y : List α) : Prop := zipA f x y = true
theorem name_st {a b : List Tok} (h : STk a b) : Rl rTok (nameP e a) (nameP e' b) := by
  unfold nameP
  rw [h.here.1]
  split
  · exact ⟨h.here, h.tail⟩
  · exact rfl
theorem word_st {a b : List Tok} (h : STk a b) (m : Bool) : Rl (· = ·) (wordP e m a) (wordP e' m b) := by
  unfold wordP
  rw [h.here.1, h.here.2.2]
  split
  · exact ⟨rfl, h.tail⟩
  · exact rfl

theorem decl_st {a b : List Tok} (h : STk a b) : Rl rD (declP e a) (declP e' b) := by
  unfold declP
  rcases (name_st (e := e) (e' := e') h).cases with ⟨f, g, e1, e2, hf⟩ | ⟨x1, r1, y1, s1, e1, e2, h1, k1⟩
  · rw [e1, e2]; exact hf
  rw [e1, e2]; clear e1 e2; dsimp only
  exact ⟨by simp [rD, sameD, h1.2.1], k1⟩
theorem init_st {a b : List Tok} (h : STk a b) : Rl rD (initP e a) (initP e' b) := by
  unfold initP
  rcases (name_st (e := e) (e' := e') h).cases with ⟨f, g, e1, e2, hf⟩ | ⟨x1, r1, y1, s1, e1, e2, h1, k1⟩
  · rw [e1, e2]; exact hf
  rw [e1, e2]; clear e1 e2; dsimp only
  rw [k1.isT, k1.tail.isT]
  split
  · have k2 : STk (if ParS.isT [45] s1.tail = true then r1.tail.tail else r1.tail) (if ParS.isT [45] s1.tail = true then s1.tail.tail else s1.tail) := by split; exact k1.tail.tail; exact k1.tail
    rcases (word_st (e := e) (e' := e') k2 (ParS.isT [45] s1.tail)).cases with ⟨f, g, e1, e2, hf⟩ | ⟨x3, r3, y3, s3, e1, e2, h3, k3⟩
    · rw [e1, e2]; exact hf
    · rw [e1, e2]; exact ⟨by simp [rD, sameD, h1.2.1, h3], k3⟩
  · exact ⟨by simp [rD, sameD, h1.2.1], k1⟩
theorem list_st {one one' : List Tok → PR Dc} (ho : ∀ a b, STk a b → Rl rD (one a) (one' b)) : ∀ (n : Nat) (a b : List Tok), STk a b → Rl (rL sameD) (listP e one n a) (listP e' one' n b)
  | 0, a, b, h => rfl
  | n + 1, a, b, h => by
    simp only [listP]
    rcases (ho a b h).cases with ⟨f, g, e1, e2, hf⟩ | ⟨x1, r1, y1, s1, e1, e2, h1, k1⟩
    · rw [e1, e2]; exact hf
    rw [e1, e2]; clear e1 e2; dsimp only
    rw [k1.isT]
    split
    · rcases (list_st ho n _ _ k1.tail).cases with ⟨f, g, e1, e2, hf⟩ | ⟨x2, r2, y2, s2, e1, e2, h2, k2⟩
      · rw [e1, e2]; exact hf
      · rw [e1, e2]; exact ⟨by simp only [rL, zipA, Bool.and_eq_true]; exact ⟨h1, h2⟩, k2⟩
    · rcases (want_st (e := e) (e' := e') k1 [59]).cases with ⟨f, g, e1, e2, hf⟩ | ⟨r2, s2, e1, e2, k2⟩
      · rw [e1, e2]; exact hf
      · rw [e1, e2]; exact ⟨by simp only [rL, zipA, Bool.and_eq_true]; exact ⟨h1, trivial⟩, k2⟩
/-! ### expressions -/
def rF (l m : List (Nat × Nat × Ex)) : Prop := zipA (fun p q => decide (p.1 = q.1) && sameE p.2.2 q.2.2) l m = true
theorem flat_st {u u' : List Tok → PR Ex} (hu : ∀ a b, STk a b → Rl rE (u a) (u' b)) : ∀ (n : Nat) (a b : List Tok), STk a b → Rl rF (flatE u n a) (flatE u' n b)
  | 0, a, b, h => rfl
  | n + 1, a, b, h => by
    simp only [flatE]
    rw [h.opT]
    cases ParS.opT (ParS.here b) with
    | none => exact ⟨rfl, h⟩
    | some op =>
      dsimp only
      rcases (hu _ _ h.tail).cases with ⟨f, g, e1, e2, hf⟩ | ⟨x1, r1, y1, s1, e1, e2, h1, k1⟩
      · rw [e1, e2]; exact hf
      rw [e1, e2]; clear e1 e2; dsimp only
      rcases (flat_st hu n _ _ k1).cases with ⟨f, g, e1, e2, hf⟩ | ⟨x2, r2, y2, s2, e1, e2, h2, k2⟩
      · rw [e1, e2]; exact hf
      · rw [e1, e2]; exact ⟨by simp only [rF, zipA, Bool.and_eq_true, decide_eq_true_eq]; exact ⟨⟨trivial, h1⟩, h2⟩, k2⟩
theorem bin_st {op a a' : Nat} {x x' y y' : Ex} (h1 : rE x x') (h2 : rE y y') : rE (binE op a x y) (binE op a' x' y') := by
  unfold rE at *
  rw [sameE_eq]; simp [binE, Ex.k, Ex.op, Ex.wd, Ex.nm, Ex.kids, zipA, h1, h2]
theorem redu_st (all : Bool) (lv : Int) : ∀ (W W' : List Pend) (x x' : Ex), rF W W' → rE x x' → rF (redu all lv W x).1 (redu all lv W' x').1 ∧ rE (redu all lv W x).2 (redu all lv W' x').2
  | [], [], x, x', _, hx => ⟨rfl, hx⟩
  | (op, a, l) :: W, (op', a', l') :: W', x, x', hW, hx => by
    simp only [rF, zipA, Bool.and_eq_true, decide_eq_true_eq] at hW
    obtain ⟨⟨rfl, hl⟩, hW⟩ := hW
    simp only [redu]
    split
    · exact redu_st all lv W W' _ _ hW (bin_st hl hx)
    · exact ⟨by simp only [rF, zipA, Bool.and_eq_true, decide_eq_true_eq]; exact ⟨⟨trivial, hl⟩, hW⟩, hx⟩
  | [], _ :: _, x, x', h, _ => by simp [rF, zipA] at h
  | _ :: _, [], x, x', h, _ => by simp [rF, zipA] at h
theorem shunt_st : ∀ (l l' : List (Nat × Nat × Ex)) (W W' : List Pend) (x x' : Ex), rF l l' → rF W W' → rE x x' → rE (shunt l W x) (shunt l' W' x')
  | [], [], W, W', x, x', _, hW, hx => (redu_st true 0 W W' x x' hW hx).2
  | (op, a, y) :: l, (op', a', y') :: l', W, W', x, x', hl, hW, hx => by
    simp only [rF, zipA, Bool.and_eq_true, decide_eq_true_eq] at hl
    obtain ⟨⟨rfl, hy⟩, hl⟩ := hl
    simp only [shunt]
    obtain ⟨h1, h2⟩ := redu_st false (lvlO (op : Int)) W W' x x' hW hx
    exact shunt_st l l' _ _ y y' hl (by simp only [rF, zipA, Bool.and_eq_true, decide_eq_true_eq]; exact ⟨⟨trivial, h2⟩, h1⟩) hy
  | [], _ :: _, W, W', x, x', h, _, _ => by simp [rF, zipA] at h
  | _ :: _, [], W, W', x, x', h, _, _ => by simp [rF, zipA] at h
theorem exprW_st {u u' : List Tok → PR Ex} (hu : ∀ a b, STk a b → Rl rE (u a) (u' b)) {a b : List Tok} (h : STk a b) : Rl rE (exprW u a) (exprW u' b) := by
  unfold exprW
  rcases (hu _ _ h).cases with ⟨f, g, e1, e2, hf⟩ | ⟨x1, r1, y1, s1, e1, e2, h1, k1⟩
  · rw [e1, e2]; exact hf
  rw [e1, e2]; clear e1 e2; dsimp only
  rw [k1.len]
  rcases (flat_st hu (s1.length + 1) _ _ k1).cases with ⟨f, g, e1, e2, hf⟩ | ⟨x2, r2, y2, s2, e1, e2, h2, k2⟩
  · rw [e1, e2]; exact hf
  · rw [e1, e2]; exact ⟨shunt_st _ _ _ _ _ _ h2 rfl h1, k2⟩
theorem leaf_st {a b : List Tok} (h : STk a b) : Rl rE (leafP e a) (leafP e' b) := by
  unfold leafP
  obtain ⟨h1, h2, h3⟩ := h.here
  rw [h1, h2, h3]
  split
  · exact ⟨by unfold rE; rw [sameE_eq]; simp [Ex.k, Ex.op, Ex.wd, Ex.nm, Ex.kids, zipA], h.tail⟩
  · split
    · exact ⟨by unfold rE; rw [sameE_eq]; simp [Ex.k, Ex.op, Ex.wd, Ex.nm, Ex.kids, zipA], h.tail⟩
    · exact rfl
theorem unary_st : ∀ (m : Nat) (a b : List Tok), STk a b → Rl rE (unaryP e m a) (unaryP e' m b)
  | 0, a, b, h => by
    simp only [unaryP]
    rw [h.inner]
    split
    · exact rfl
    · exact leaf_st h
  | m + 1, a, b, h => by
    simp only [unaryP]
    rw [h.inner, h.here.2.1]
    split
    · split
      · rcases (exprW_st (unary_st m) h.tail).cases with ⟨f, g, e1, e2, hf⟩ | ⟨x1, r1, y1, s1, e1, e2, h1, k1⟩
        · rw [e1, e2]; exact hf
        rw [e1, e2]; clear e1 e2; dsimp only
        rcases (want_st (e := e) (e' := e') k1 [41]).cases with ⟨f, g, e1, e2, hf⟩ | ⟨r2, s2, e1, e2, k2⟩
        · rw [e1, e2]; exact hf
        · rw [e1, e2]; exact ⟨h1, k2⟩
      · rcases (unary_st m _ _ h.tail).cases with ⟨f, g, e1, e2, hf⟩ | ⟨x1, r1, y1, s1, e1, e2, h1, k1⟩
        · rw [e1, e2]; exact hf
        · rw [e1, e2]; exact ⟨by unfold rE at *; rw [sameE_eq]; simp [Ex.k, Ex.op, Ex.wd, Ex.nm, Ex.kids, zipA, h1], k1⟩
    · exact leaf_st h
theorem expr_st (m : Nat) {a b : List Tok} (h : STk a b) : Rl rE (exprP e m a) (exprP e' m b) := exprW_st (unary_st m) h
/-! ### statements -/
theorem cond_st {a b : List Tok} (h : STk a b) : Rl rE (condP e a) (condP e' b) := by
  unfold condP
  rcases (want_st (e := e) (e' := e') h [40]).cases with ⟨f, g, e1, e2, hf⟩ | ⟨r1, s1, e1, e2, k1⟩
  · rw [e1, e2]; exact hf
  rw [e1, e2]; clear e1 e2; dsimp only
  rcases (expr_st (e := e) (e' := e') 64 k1).cases with ⟨f, g, e1, e2, hf⟩ | ⟨x2, r2, y2, s2, e1, e2, h2, k2⟩
  · rw [e1, e2]; exact hf
  rw [e1, e2]; clear e1 e2; dsimp only
  rcases (want_st (e := e) (e' := e') k2 [41]).cases with ⟨f, g, e1, e2, hf⟩ | ⟨r3, s3, e1, e2, k3⟩
  · rw [e1, e2]; exact hf
  rw [e1, e2]; clear e1 e2; dsimp only
  exact ⟨h2, k3⟩
theorem semi_st {a b : List Tok} (h : STk a b) : Rl rE (exprSemi e a) (exprSemi e' b) := by
  unfold exprSemi
  rcases (expr_st (e := e) (e' := e') 64 h).cases with ⟨f, g, e1, e2, hf⟩ | ⟨x1, r1, y1, s1, e1, e2, h1, k1⟩
  · rw [e1, e2]; exact hf
  rw [e1, e2]; clear e1 e2; dsimp only
  rcases (want_st (e := e) (e' := e') k1 [59]).cases with ⟨f, g, e1, e2, hf⟩ | ⟨r2, s2, e1, e2, k2⟩
  · rw [e1, e2]; exact hf
  rw [e1, e2]; clear e1 e2; dsimp only
  exact ⟨h1, k2⟩
theorem swap_st {a b : List Tok} (h : STk a b) : Rl (fun p q => p.1 = q.1 ∧ rE p.2 q.2) (swapP e a) (swapP e' b) := by
  unfold swapP
  rcases (want_st (e := e) (e' := e') h [40]).cases with ⟨f, g, e1, e2, hf⟩ | ⟨r1, s1, e1, e2, k1⟩
  · rw [e1, e2]; exact hf
  rw [e1, e2]; clear e1 e2; dsimp only
  rcases (name_st (e := e) (e' := e') k1).cases with ⟨f, g, e1, e2, hf⟩ | ⟨x2, r2, y2, s2, e1, e2, h2, k2⟩
  · rw [e1, e2]; exact hf
  rw [e1, e2]; clear e1 e2; dsimp only
  rcases (want_st (e := e) (e' := e') k2 [44]).cases with ⟨f, g, e1, e2, hf⟩ | ⟨r3, s3, e1, e2, k3⟩
  · rw [e1, e2]; exact hf
  rw [e1, e2]; clear e1 e2; dsimp only
  rcases (expr_st (e := e) (e' := e') 64 k3).cases with ⟨f, g, e1, e2, hf⟩ | ⟨x4, r4, y4, s4, e1, e2, h4, k4⟩
  · rw [e1, e2]; exact hf
  rw [e1, e2]; clear e1 e2; dsimp only
  rcases (want_st (e := e) (e' := e') k4 [41]).cases with ⟨f, g, e1, e2, hf⟩ | ⟨r5, s5, e1, e2, k5⟩
  · rw [e1, e2]; exact hf
  rw [e1, e2]; clear e1 e2; dsimp only
  rcases (want_st (e := e) (e' := e') k5 [59]).cases with ⟨f, g, e1, e2, hf⟩ | ⟨r6, s6, e1, e2, k6⟩
  · rw [e1, e2]; exact hf
  rw [e1, e2]; clear e1 e2; dsimp only
  exact ⟨⟨h2.2.1, h4⟩, k6⟩
theorem assign_st {a b : List Tok} (h : STk a b) (p q : Nat) : Rl rS (assignP e p a) (assignP e' q b) := by
  unfold assignP
  rcases (name_st (e := e) (e' := e') h).cases with ⟨f, g, e1, e2, hf⟩ | ⟨x1, r1, y1, s1, e1, e2, h1, k1⟩
  · rw [e1, e2]; exact hf
  rw [e1, e2]; clear e1 e2; dsimp only
  rcases (want_st (e := e) (e' := e') k1 [61]).cases with ⟨f, g, e1, e2, hf⟩ | ⟨r2, s2, e1, e2, k2⟩
  · rw [e1, e2]; exact hf
  rw [e1, e2]; clear e1 e2; dsimp only
  rw [k2.isT]
  split
  · rcases (swap_st (e := e) (e' := e') k2.tail).cases with ⟨f, g, e1, e2, hf⟩ | ⟨⟨o3, x3⟩, r3, ⟨o4, y3⟩, s3, e1, e2, h3, k3⟩
    · rw [e1, e2]; exact hf
    · rw [e1, e2]; dsimp only at h3; exact ⟨by unfold rS; rw [sameS_eq]; simp [Sm.k, Sm.nm, Sm.other, Sm.e, Sm.body, Sm.els, zipA, h1.2.1, h3.1]; exact h3.2, k3⟩
  · rcases (semi_st (e := e) (e' := e') k2).cases with ⟨f, g, e1, e2, hf⟩ | ⟨x3, r3, y3, s3, e1, e2, h3, k3⟩
    · rw [e1, e2]; exact hf
    · rw [e1, e2]; exact ⟨by unfold rS; rw [sameS_eq]; simp [Sm.k, Sm.nm, Sm.other, Sm.e, Sm.body, Sm.els, zipA, h1.2.1]; exact h3, k3⟩
theorem stmtW_st {bk bk' : List Tok → PR (List Sm)} (hb : ∀ a b, STk a b → Rl (rL sameS) (bk a) (bk' b)) {a b : List Tok} (h : STk a b) : Rl rS (stmtW e bk a) (stmtW e' bk' b) := by
  unfold stmtW
  rw [h.formT, h.formT, h.formT, h.formT, h.formT]
  split
  · rcases (cond_st (e := e) (e' := e') h.tail).cases with ⟨f, g, e1, e2, hf⟩ | ⟨x1, r1, y1, s1, e1, e2, h1, k1⟩
    · rw [e1, e2]; exact hf
    rw [e1, e2]; clear e1 e2; dsimp only
    rcases (hb _ _ k1).cases with ⟨f, g, e1, e2, hf⟩ | ⟨x2, r2, y2, s2, e1, e2, h2, k2⟩
    · rw [e1, e2]; exact hf
    rw [e1, e2]; clear e1 e2; dsimp only
    rw [k2.isT]
    split
    · rcases (hb _ _ k2.tail).cases with ⟨f, g, e1, e2, hf⟩ | ⟨x3, r3, y3, s3, e1, e2, h3, k3⟩
      · rw [e1, e2]; exact hf
      · rw [e1, e2]; exact ⟨by unfold rS; rw [sameS_eq]; simp [Sm.k, Sm.nm, Sm.other, Sm.e, Sm.body, Sm.els, zipA]; exact ⟨⟨h1, h2⟩, h3⟩, k3⟩
    · exact ⟨by unfold rS; rw [sameS_eq]; simp [Sm.k, Sm.nm, Sm.other, Sm.e, Sm.body, Sm.els, zipA]; exact ⟨h1, h2⟩, k2⟩
  split
  · rcases (cond_st (e := e) (e' := e') h.tail).cases with ⟨f, g, e1, e2, hf⟩ | ⟨x1, r1, y1, s1, e1, e2, h1, k1⟩
    · rw [e1, e2]; exact hf
    rw [e1, e2]; clear e1 e2; dsimp only
    rcases (hb _ _ k1).cases with ⟨f, g, e1, e2, hf⟩ | ⟨x2, r2, y2, s2, e1, e2, h2, k2⟩
    · rw [e1, e2]; exact hf
    rw [e1, e2]; clear e1 e2; dsimp only
    exact ⟨by unfold rS; rw [sameS_eq]; simp [Sm.k, Sm.nm, Sm.other, Sm.e, Sm.body, Sm.els, zipA]; exact ⟨h1, h2⟩, k2⟩
  split
  · rcases (name_st (e := e) (e' := e') h.tail).cases with ⟨f, g, e1, e2, hf⟩ | ⟨x1, r1, y1, s1, e1, e2, h1, k1⟩
    · rw [e1, e2]; exact hf
    rw [e1, e2]; clear e1 e2; dsimp only
    rcases (hb _ _ k1).cases with ⟨f, g, e1, e2, hf⟩ | ⟨x2, r2, y2, s2, e1, e2, h2, k2⟩
    · rw [e1, e2]; exact hf
    rw [e1, e2]; clear e1 e2; dsimp only
    exact ⟨by unfold rS; rw [sameS_eq]; simp [Sm.k, Sm.nm, Sm.other, Sm.e, Sm.body, Sm.els, zipA, h1.2.1]; exact h2, k2⟩
  split
  · rcases (semi_st (e := e) (e' := e') h.tail).cases with ⟨f, g, e1, e2, hf⟩ | ⟨x1, r1, y1, s1, e1, e2, h1, k1⟩
    · rw [e1, e2]; exact hf
    rw [e1, e2]; clear e1 e2; dsimp only
    exact ⟨by unfold rS; rw [sameS_eq]; simp [Sm.k, Sm.nm, Sm.other, Sm.e, Sm.body, Sm.els, zipA]; exact h1, k1⟩
  split
  · rcases (want_st (e := e) (e' := e') h.tail [59]).cases with ⟨f, g, e1, e2, hf⟩ | ⟨r1, s1, e1, e2, k1⟩
    · rw [e1, e2]; exact hf
    rw [e1, e2]; clear e1 e2; dsimp only
    exact ⟨by unfold rS; rw [sameS_eq]; simp [Sm.k, Sm.nm, Sm.other, Sm.e, Sm.body, Sm.els, zipA], k1⟩
  exact assign_st h _ _
theorem restW_st {st st' : List Tok → PR Sm} (hs : ∀ a b, STk a b → Rl rS (st a) (st' b)) : ∀ (n : Nat) (a b : List Tok), STk a b → Rl (rL sameS) (restW st n a) (restW st' n b)
  | 0, a, b, h => rfl
  | n + 1, a, b, h => by
    simp only [restW]
    rw [h.isT]
    split
    · exact ⟨rfl, h.tail⟩
    · rcases (hs _ _ h).cases with ⟨f, g, e1, e2, hf⟩ | ⟨x1, r1, y1, s1, e1, e2, h1, k1⟩
      · rw [e1, e2]; exact hf
      rw [e1, e2]; clear e1 e2; dsimp only
      rcases (restW_st hs n _ _ k1).cases with ⟨f, g, e1, e2, hf⟩ | ⟨x2, r2, y2, s2, e1, e2, h2, k2⟩
      · rw [e1, e2]; exact hf
      · rw [e1, e2]; exact ⟨by simp only [rL, zipA, Bool.and_eq_true]; exact ⟨h1, h2⟩, k2⟩
theorem stmt_st : ∀ (m : Nat) (a b : List Tok), STk a b → Rl rS (stmtP e m a) (stmtP e' m b)
  | 0, a, b, h => by
    simp only [stmtP]
    refine stmtW_st (fun a b h => ?_) h
    rw [h.isT]
    split <;> exact rfl
  | m + 1, a, b, h => by
    simp only [stmtP]
    refine stmtW_st (fun a b h => ?_) h
    rcases (want_st (e := e) (e' := e') h [123]).cases with ⟨f, g, e1, e2, hf⟩ | ⟨r1, s1, e1, e2, k1⟩
    · rw [e1, e2]; exact hf
    rw [e1, e2]; clear e1 e2; dsimp only
    rw [k1.len]
    exact restW_st (stmt_st m) _ _ _ k1
theorem rest_st (m : Nat) {a b : List Tok} (h : STk a b) : Rl (rL sameS) (restP e m a) (restP e' m b) := by
  unfold restP
  rw [h.len]
  exact restW_st (stmt_st m) _ _ _ h
/-! ### programs -/
theorem zipA_app {α : Type} {f : α → α → Bool} : ∀ {a b c d : List α}, zipA f a b = true → zipA f c d = true → zipA f (a ++ c) (b ++ d) = true
  | [], [], c, d, _, h => h
  | x :: a, y :: b, c, d, h, k => by
    simp only [zipA, Bool.and_eq_true, List.cons_append] at *
    exact ⟨h.1, zipA_app h.2 k⟩
  | [], _ :: _, c, d, h, _ => by simp [zipA] at h
  | _ :: _, [], c, d, h, _ => by simp [zipA] at h
theorem locals_st : ∀ (n : Nat) (a b : List Tok), STk a b → Rl (rL sameD) (localsP e n a) (localsP e' n b)
  | 0, a, b, h => rfl
  | n + 1, a, b, h => by
    simp only [localsP]
    rw [h.isT, h.len]
    split
    · rcases (list_st (e := e) (e' := e') (fun a b h => decl_st h) (b.length + 1) _ _ h.tail).cases with ⟨f, g, e1, e2, hf⟩ | ⟨x1, r1, y1, s1, e1, e2, h1, k1⟩
      · rw [e1, e2]; exact hf
      rw [e1, e2]; clear e1 e2; dsimp only
      rcases (locals_st n _ _ k1).cases with ⟨f, g, e1, e2, hf⟩ | ⟨x2, r2, y2, s2, e1, e2, h2, k2⟩
      · rw [e1, e2]; exact hf
      · rw [e1, e2]; exact ⟨zipA_app h1 h2, k2⟩
    · exact ⟨rfl, h⟩
theorem thread_st {a b : List Tok} (h : STk a b) : Rl rT (threadP e a) (threadP e' b) := by
  unfold threadP
  rcases (name_st (e := e) (e' := e') h).cases with ⟨f, g, e1, e2, hf⟩ | ⟨x1, r1, y1, s1, e1, e2, h1, k1⟩
  · rw [e1, e2]; exact hf
  rw [e1, e2]; clear e1 e2; dsimp only
  rcases (want_st (e := e) (e' := e') k1 [123]).cases with ⟨f, g, e1, e2, hf⟩ | ⟨r2, s2, e1, e2, k2⟩
  · rw [e1, e2]; exact hf
  rw [e1, e2]; clear e1 e2; dsimp only
  rw [k2.len]
  rcases (locals_st (e := e) (e' := e') (s2.length + 1) _ _ k2).cases with ⟨f, g, e1, e2, hf⟩ | ⟨x3, r3, y3, s3, e1, e2, h3, k3⟩
  · rw [e1, e2]; exact hf
  rw [e1, e2]; clear e1 e2; dsimp only
  rcases (rest_st (e := e) (e' := e') 63 k3).cases with ⟨f, g, e1, e2, hf⟩ | ⟨x4, r4, y4, s4, e1, e2, h4, k4⟩
  · rw [e1, e2]; exact hf
  rw [e1, e2]; clear e1 e2; dsimp only
  exact ⟨by simp only [rT, sameT, Bool.and_eq_true, decide_eq_true_eq]; exact ⟨⟨h1.2.1, h3⟩, h4⟩, k4⟩
theorem threads_st : ∀ (n : Nat) (a b : List Tok), STk a b → Rl (rL sameT) (threadsP e n a) (threadsP e' n b)
  | 0, a, b, h => rfl
  | n + 1, a, b, h => by
    simp only [threadsP]
    rw [h.isT]
    split
    · rcases (thread_st (e := e) (e' := e') h.tail).cases with ⟨f, g, e1, e2, hf⟩ | ⟨x1, r1, y1, s1, e1, e2, h1, k1⟩
      · rw [e1, e2]; exact hf
      rw [e1, e2]; clear e1 e2; dsimp only
      rcases (threads_st n _ _ k1).cases with ⟨f, g, e1, e2, hf⟩ | ⟨x2, r2, y2, s2, e1, e2, h2, k2⟩
      · rw [e1, e2]; exact hf
      · rw [e1, e2]; exact ⟨by simp only [rL, zipA, Bool.and_eq_true]; exact ⟨h1, h2⟩, k2⟩
    · exact ⟨rfl, h⟩
/-- programs: the same, but for places -/
def Rg : Except Flt Pg → Except Flt Pg → Prop
  | .error f, .error g => f.2 = g.2
  | .ok p, .ok q => sameP p q = true
  | _, _ => False
theorem Rg.cases {p q : Except Flt Pg} (h : Rg p q) : (∃ f g, p = .error f ∧ q = .error g ∧ f.2 = g.2) ∨ ∃ r s, p = .ok r ∧ q = .ok s ∧ sameP r s = true := by
  cases p with
  | error f => cases q with
    | error g => exact .inl ⟨f, g, rfl, rfl, h⟩
    | ok b => exact h.elim
  | ok a => cases q with
    | error g => exact h.elim
    | ok b => exact .inr ⟨a, b, rfl, rfl, h⟩
theorem prog_st : ∀ (n : Nat) (a b : List Tok), STk a b → Rg (progP e n a) (progP e' n b)
  | 0, a, b, h => rfl
  | n + 1, a, b, h => by
    simp only [progP]
    rw [h.isT, h.isT, h.len]
    split
    · rcases (list_st (e := e) (e' := e') (fun a b h => init_st h) (b.length + 1) _ _ h.tail).cases with ⟨f, g, e1, e2, hf⟩ | ⟨x1, r1, y1, s1, e1, e2, h1, k1⟩
      · rw [e1, e2]; exact hf
      rw [e1, e2]; clear e1 e2; dsimp only
      rcases (prog_st n _ _ k1).cases with ⟨f, g, e1, e2, hf⟩ | ⟨x2, y2, e1, e2, h2⟩
      · rw [e1, e2]; exact hf
      · rw [e1, e2]
        simp only [Rg, sameP, Bool.and_eq_true] at h2 ⊢
        exact ⟨⟨zipA_app h1 h2.1.1, h2.1.2⟩, h2.2⟩
    · split
      · rcases (list_st (e := e) (e' := e') (fun a b h => decl_st h) (b.length + 1) _ _ h.tail).cases with ⟨f, g, e1, e2, hf⟩ | ⟨x1, r1, y1, s1, e1, e2, h1, k1⟩
        · rw [e1, e2]; exact hf
        rw [e1, e2]; clear e1 e2; dsimp only
        rcases (prog_st n _ _ k1).cases with ⟨f, g, e1, e2, hf⟩ | ⟨x2, y2, e1, e2, h2⟩
        · rw [e1, e2]; exact hf
        · rw [e1, e2]
          simp only [Rg, sameP, Bool.and_eq_true] at h2 ⊢
          exact ⟨⟨h2.1.1, zipA_app h1 h2.1.2⟩, h2.2⟩
      · rcases (threads_st (e := e) (e' := e') (b.length + 1) _ _ h).cases with ⟨f, g, e1, e2, hf⟩ | ⟨x1, r1, y1, s1, e1, e2, h1, k1⟩
        · rw [e1, e2]; exact hf
        rw [e1, e2]; clear e1 e2; dsimp only
        rw [k1.len]
        split
        · simp only [Rg, sameP, Bool.and_eq_true]; exact ⟨⟨rfl, rfl⟩, h1⟩
        · exact rfl
end
end ParS


/- A text that is printed is cut into the tokens of its tree. -/
namespace ParS
open Sx LexS
set_option linter.unusedVariables false
set_option linter.unusedSimpArgs false

/-- ahead of 'Z', 'l' is cut into 'T' -/
def Lx (l : List UInt8) (T : List Tok) (Z : List UInt8) : Prop := ∀ i, ∃ T', STk T' T ∧ scanA (l ++ Z) i = (T' ++ (scanA Z (i + l.length)).1, (scanA Z (i + l.length)).2)
theorem STk.app {a b c d : List Tok} (h : STk a b) (k : STk c d) : STk (a ++ c) (b ++ d) := by unfold STk at *; rw [List.map_append, List.map_append, h, k]
theorem Lx.nil (Z : List UInt8) : Lx [] [] Z := fun i => ⟨[], rfl, by simp⟩
theorem Lx.app {l m : List UInt8} {T U : List Tok} {Z : List UInt8} (h : Lx l T (m ++ Z)) (k : Lx m U Z) : Lx (l ++ m) (T ++ U) Z := by
  intro i
  obtain ⟨T1, h1, h2⟩ := h i
  obtain ⟨U1, k1, k2⟩ := k (i + l.length)
  refine ⟨T1 ++ U1, h1.app k1, ?_⟩
  rw [List.append_assoc, h2, k2]
  simp [Nat.add_assoc]
theorem Lx.eq {l m : List UInt8} {T U : List Tok} {Z : List UInt8} (h : Lx l T Z) (e1 : l = m) (e2 : T = U) : Lx m U Z := by subst e1; subst e2; exact h
theorem Lx.blank {c : UInt8} (hc : isBlank c = true) (Z : List UInt8) : Lx [c] [] Z := by
  intro j
  refine ⟨[], rfl, ?_⟩
  have hs : skip (c :: Z) = skip Z + 1 := skip_blank hc
  simp only [List.cons_append, List.nil_append, List.length_cons, List.length_nil, Nat.zero_add]
  rcases Nat.lt_or_ge (skip Z) Z.length with hk | hk
  · have e : (c :: Z).drop (skip (c :: Z)) = Z.drop (skip Z) := by rw [hs]; rfl
    have e2 : j + skip (c :: Z) = j + 1 + skip Z := by omega
    cases hx : tokAt (Z.drop (skip Z)) (j + 1 + skip Z) with
    | bad rule p => rw [scanA_bad hk hx, scanA_bad (by rw [hs]; simpa using hk) (by rw [e, e2]; exact hx)]
    | tok x =>
      rw [scanA_tok hk hx, scanA_tok (by rw [hs]; simpa using hk) (by rw [e, e2]; exact hx)]
      have e3 : (c :: Z).drop (skip (c :: Z) + x.text.length) = Z.drop (skip Z + x.text.length) := by
        rw [hs, show skip Z + 1 + x.text.length = (skip Z + x.text.length) + 1 by omega]; rfl
      rw [e3, e2]
  · rw [scanA_end hk, scanA_end (by rw [hs]; simpa using hk)]
/-- one token -/
theorem Lx.one {t : List UInt8} {x : Tok} {Z : List UInt8} (h0 : 0 < t.length) (hs : skip (t ++ Z) = 0) (h : ∀ i, ∃ y, tokAt (t ++ Z) i = .tok y ∧ trp y = trp x) (hx : x.text = t) : Lx t [x] Z := by
  intro i
  obtain ⟨y, h1, h2⟩ := h i
  have ht : y.text = t := by simp only [trp, Prod.mk.injEq] at h2; rw [h2.2.1, hx]
  refine ⟨[y], by simp [STk, h2], ?_⟩
  rw [scanA_tok (t := y) (by rw [hs]; simp; omega) (by rw [hs]; simpa using h1), hs, ht]
  simp
/-- nothing behind it that goes on with a word -/
def NI (Z : List UInt8) : Prop := ∀ c r, Z = c :: r → isIdent c = false
theorem NI.nil : NI [] := fun c r h => by cases h
theorem NI.cons {c : UInt8} (h : isIdent c = false) (r : List UInt8) : NI (c :: r) := fun d s e => by cases e; exact h
/-! ### expressions -/
/-- what an expression's text begins with -/
def Hd (l : List UInt8) : Prop := ∃ c r, l = c :: r ∧ c ≠ 61
theorem Hd.app {l : List UInt8} (h : Hd l) (m : List UInt8) : Hd (l ++ m) := by obtain ⟨c, r, rfl, h⟩ := h; exact ⟨c, r ++ m, rfl, h⟩
end ParS


/- Plain laws on a text that is cut at the end of a line: a fault stays, and the tokens ahead of it. -/
namespace LexS
end LexS


/- A text that is read whole, with a line's end and more behind. -/
namespace ParS
open LexS Sx
set_option linter.unusedVariables false
theorem scanA_drop {l : List UInt8} {n : Nat} (h : skip l = n + skip (l.drop n)) (hn : n ≤ l.length) (i : Nat) : scanA l i = scanA (l.drop n) (i + n) := by
  have hd : l.drop (skip l) = (l.drop n).drop (skip (l.drop n)) := by rw [h, List.drop_drop]
  have hl : (l.drop n).length = l.length - n := by simp
  by_cases hs : skip l < l.length
  · have hs2 : skip (l.drop n) < (l.drop n).length := by omega
    have ha : i + n + skip (l.drop n) = i + skip l := by omega
    cases ht : tokAt (l.drop (skip l)) (i + skip l) with
    | bad rule p =>
      rw [scanA_bad hs ht, scanA_bad (rule := rule) (p := p) hs2 (by rw [← hd, ha]; exact ht)]
    | tok t =>
      rw [scanA_tok hs ht, scanA_tok (t := t) hs2 (by rw [← hd, ha]; exact ht)]
      rw [List.drop_drop, show n + (skip (l.drop n) + t.text.length) = skip l + t.text.length by omega, ha]
  · rw [scanA_end (by omega), scanA_end (by omega)]
end ParS


/- The tokens of statements and programs, and that they are parsed as what they are of. -/
namespace ParS
open Sx LexS
set_option linter.unusedVariables false
set_option linter.unusedSimpArgs false

section
variable {e : Nat}
end
end ParS


/- A program's text that is printed is cut into its tokens, and parsed as it was, but for places. -/
namespace ParS
open Sx LexS
set_option linter.unusedVariables false
set_option linter.unusedSimpArgs false

/-- the lexer's answer -/
theorem lx_front {l : List UInt8} {T : List Tok} (h : Lx l T []) : ∃ T', STk T' T ∧ front l = (T', none) := by
  obtain ⟨T', h1, h2⟩ := h 0
  refine ⟨T', h1, ?_⟩
  rw [front_eq]
  rw [List.append_nil] at h2
  rw [h2, scanA_end (by simp)]
  simp

section
variable {e : Nat}
end
end ParS


/- What is parsed may be written: expressions. -/
namespace ParS
open Sx LexS
set_option linter.unusedVariables false
set_option linter.unusedSimpArgs false

structure TkOk (t : Tok) : Prop where
  name : t.kind = 1 → isName t.text = true
  word : t.word ≤ 9223372036854775807
  at_ : t.at_ ≤ 1048576
def TsOk (ts : List Tok) : Prop := (∀ t ∈ ts, TkOk t) ∧ ts.length ≤ 1048576
theorem TsOk.tail {ts : List Tok} (h : TsOk ts) : TsOk ts.tail := ⟨fun t ht => h.1 t (List.mem_of_mem_tail ht), by rw [List.length_tail]; have := h.2; omega⟩
theorem TsOk.here {ts : List Tok} (h : TsOk ts) : TkOk (ParS.here ts) := by
  cases ts with
  | nil => exact ⟨fun h => (by cases h), by simp [ParS.here, tok0], by simp [ParS.here, tok0]⟩
  | cons x l => exact h.1 x (.head _)
theorem i64_nat {n : Nat} (h : n ≤ 9223372036854775807) : i64 (n : Int) := ⟨by omega, by omega⟩
theorem i64_neg {n : Nat} (h : n ≤ 9223372036854775807) : i64 (-(n : Int)) := ⟨by omega, by omega⟩
theorem TkOk.ati {t : Tok} (h : TkOk t) : i64 (t.at_ : Int) := i64_nat (by have := h.at_; omega)
theorem rightE_mono : ∀ (n : Nat) (x : Ex), SizeOf.sizeOf x = n → ∀ d d', rightE x d = true → d' ≤ d → rightE x d' = true := by
  intro n
  refine Nat.strongRecOn n fun n ih => ?_
  intro x hn d d' hr hd
  obtain ⟨hle, hcase⟩ := rightE_iff.1 hr
  refine rightE_iff.2 ⟨by omega, ?_⟩
  have hkid : ∀ y, y ∈ x.kids → ∀ a b, rightE y a = true → b ≤ a → rightE y b = true := fun y hy a b h1 h2 => ih _ (by have := memE_lt hy; omega) y rfl a b h1 h2
  rcases hcase with h | h | h | h
  · exact .inl h
  · exact .inr (.inl h)
  · obtain ⟨h1, h2, h3, h4, y, hy, hry⟩ := h
    refine .inr (.inr (.inl ⟨h1, h2, h3, h4, y, hy, hkid y (by rw [hy]; exact .head _) _ _ hry ?_⟩))
    split <;> omega
  · obtain ⟨h1, h2, h3, h4, y, z, hyz, hry, hrz⟩ := h
    refine .inr (.inr (.inr ⟨h1, h2, h3, h4, y, z, hyz, hkid y (by rw [hyz]; exact .head _) _ _ hry ?_, hkid z (by rw [hyz]; exact .tail _ (.head _)) _ _ hrz ?_⟩))
    · split <;> omega
    · split <;> omega
theorem right_le {x : Ex} {d d' : Nat} (h : rightE x d = true) (hd : d' ≤ d) : rightE x d' = true := rightE_mono _ x rfl d d' h hd
/-- a tree that may be a part at the depth 'd' -/
structure Prt (x : Ex) (d : Nat) : Prop where
  ok : OkE x
  r : rightE x d = true
  par : x.k = 4 → rightE x (d + 1) = true
/-- how an operand's reader answers -/
def Reads (u : List Tok → PR Ex) (d : Nat) : Prop := ∀ r x r', TsOk r → u r = .ok (x, r') → Prt x d ∧ TsOk r'
theorem findO_two {s : List UInt8} {op : Nat} (h : findO s = some op) : twoOp (op : Int) = true := by
  unfold findO at h
  have h1 := List.find?_some h
  simp only [Bool.and_eq_true] at h1
  exact h1.1
theorem opT_two {t : Tok} {op : Nat} (h : opT t = some op) : twoOp (op : Int) = true := by
  unfold opT at h; split at h
  · exact findO_two h
  · cases h
theorem okE_bin {op : Nat} {a : Nat} {x y : Ex} (hop : twoOp (op : Int) = true) (ha : i64 (a : Int)) (hx : OkE x) (hy : OkE y) : OkE (binE op a x y) := by
  simp only [twoOp, decide_eq_true_eq] at hop
  refine .mk ⟨by decide, by decide⟩ ⟨by omega, by omega⟩ ⟨by decide, by decide⟩ ha (by simp) ?_
  intro j z hz
  match j, hz with
  | 0, hz => simp at hz; subst hz; exact hx
  | 1, hz => simp at hz; subst hz; exact hy
  | j + 2, hz => simp at hz
theorem loopE_right {u : List Tok → PR Ex} {d : Nat} (hd : d ≤ 64) (hu : Reads u d) : ∀ (n : Nat) (lv : Int) (x : Ex) (r : List Tok) (z : Ex) (r' : List Tok), TsOk r → loopE u n lv x r = .ok (z, r') →
    OkE x → rightE x d = true → (x.k = 4 → rightE x (d + 1) = true ∨ lv ≤ lvlO x.op) → (x.k = 4 → rightE x (d + 1) = true ∨ ∀ o, opT (here r) = some o → lvlO (o : Int) ≤ lvlO x.op) →
    OkE z ∧ rightE z d = true ∧ (z.k = 4 → rightE z (d + 1) = true ∨ lv ≤ lvlO z.op) ∧ (∀ o, opT (here r') = some o → lvlO (o : Int) < lv) ∧ TsOk r'
  | 0, lv, x, r, z, r', _, h, _, _, _, _ => by simp [loopE] at h
  | n + 1, lv, x, r, z, r', hr, h, h1, h2, h3, h4 => by
    simp only [loopE] at h
    cases hop : opT (here r) with
    | none =>
      rw [hop] at h; cases h
      exact ⟨h1, h2, h3, fun o ho => (by rw [hop] at ho; cases ho), hr⟩
    | some op =>
      rw [hop] at h
      simp only at h
      split at h
      · rename_i hlt
        cases h
        exact ⟨h1, h2, h3, fun o ho => (by rw [hop] at ho; cases ho; exact hlt), hr⟩
      · rename_i hge
        cases hy : u r.tail with
        | error f => rw [hy] at h; cases h
        | ok p =>
          obtain ⟨y, r1⟩ := p
          rw [hy] at h
          simp only at h
          obtain ⟨py, hr1⟩ := hu _ _ _ hr.tail hy
          cases hz : loopE u n (lvlO (op : Int) + 1) y r1 with
          | error f => rw [hz] at h; cases h
          | ok q =>
            obtain ⟨z1, r2⟩ := q
            rw [hz] at h
            simp only at h
            obtain ⟨a1, a2, a3, a4, a5⟩ := loopE_right hd hu n _ _ _ _ _ hr1 hz py.ok py.r (fun k => .inl (py.par k)) (fun k => .inl (py.par k))
            have htwo := opT_two hop
            have hleft : rightE x (if inn (op : Int) x false = true then d + 1 else d) = true := by
              split
              · rename_i hin
                unfold inn at hin
                simp only [Bool.and_eq_true, decide_eq_true_eq, Bool.false_and, Bool.or_false] at hin
                rcases h4 hin.1 with k | k
                · exact k
                · have := k op hop; omega
              · exact h2
            have hright : rightE z1 (if inn (op : Int) z1 true = true then d + 1 else d) = true := by
              split
              · rename_i hin
                unfold inn at hin
                simp only [Bool.and_eq_true, decide_eq_true_eq, Bool.true_and, Bool.or_eq_true] at hin
                rcases a3 hin.1 with k | k
                · exact k
                · rcases hin.2 with k2 | k2 <;> omega
              · exact a2
            have hb : rightE (binE op (here r).at_ x z1) d = true := rightE_iff.2 ⟨hd, .inr (.inr (.inr ⟨rfl, htwo, rfl, rfl, x, z1, rfl, hleft, hright⟩))⟩
            exact loopE_right hd hu n lv _ r2 z r' a5 h (okE_bin htwo hr.here.ati h1 a1) hb (fun _ => .inr (by show lv ≤ lvlO (op : Int); omega)) (fun _ => .inr fun o ho => by have := a4 o ho; show lvlO (o : Int) ≤ lvlO (op : Int); omega)
theorem exprW_right {u : List Tok → PR Ex} {d : Nat} (hd : d ≤ 64) (hg : Goes u) (hu : Reads u d) {r r' : List Tok} {x : Ex} (hr : TsOk r) (h : exprW u r = .ok (x, r')) : OkE x ∧ rightE x d = true ∧ TsOk r' := by
  rw [← climbE_expr u hg] at h
  unfold climbE at h
  cases hx : u r with
  | error f => rw [hx] at h; cases h
  | ok p =>
    obtain ⟨y, r1⟩ := p
    rw [hx] at h
    simp only at h
    obtain ⟨py, hr1⟩ := hu _ _ _ hr hx
    obtain ⟨a1, a2, a3, a4, a5⟩ := loopE_right hd hu _ _ _ _ _ _ hr1 h py.ok py.r (fun k => .inl (py.par k)) (fun k => .inl (py.par k))
    exact ⟨a1, a2, a5⟩
theorem leaf_right (e : Nat) {d : Nat} (hd : d ≤ 64) : Reads (leafP e) d := by
  intro r x r' hr h
  unfold leafP at h
  have hh := hr.here
  split at h
  · cases h
    refine ⟨⟨.mk ⟨by decide, by decide⟩ ⟨by decide, by decide⟩ (i64_nat hh.word) hh.ati (by simp) (fun j z hz => by simp at hz), rightE_iff.2 ⟨hd, .inl ⟨rfl, by simp [Ex.wd], rfl, rfl, rfl⟩⟩, fun k => by simp [Ex.k] at k⟩, hr.tail⟩
  · split at h
    · rename_i hk
      cases h
      refine ⟨⟨.mk ⟨by decide, by decide⟩ ⟨by decide, by decide⟩ ⟨by decide, by decide⟩ hh.ati (by simp) (fun j z hz => by simp at hz), rightE_iff.2 ⟨hd, .inr (.inl ⟨rfl, hh.name hk, rfl, rfl, rfl⟩)⟩, fun k => by simp [Ex.k] at k⟩, hr.tail⟩
    · cases h
theorem unary_right (e : Nat) : ∀ (m d : Nat), d + m = 64 → Reads (unaryP e m) d
  | 0, d, hd => by
    intro r x r' hr h
    simp only [unaryP] at h
    split at h
    · cases h
    · exact leaf_right e (by omega) r x r' hr h
  | m + 1, d, hd => by
    intro r x r' hr h
    simp only [unaryP] at h
    have ih := unary_right e m (d + 1) (by omega)
    split at h
    · split at h
      · cases hx : exprW (unaryP e m) r.tail with
        | error f => rw [hx] at h; cases h
        | ok p =>
          obtain ⟨y, r1⟩ := p
          rw [hx] at h
          simp only at h
          obtain ⟨a1, a2, a3⟩ := exprW_right (by omega) (unary_goes e m) ih hr.tail hx
          cases hw : want e [41] r1 with
          | error f => rw [hw] at h; cases h
          | ok r2 =>
            rw [hw] at h
            cases h
            obtain ⟨_, rfl⟩ := want_ok hw
            exact ⟨⟨a1, right_le a2 (by omega), fun _ => a2⟩, a3.tail⟩
      · cases hx : unaryP e m r.tail with
        | error f => rw [hx] at h; cases h
        | ok p =>
          obtain ⟨y, r1⟩ := p
          rw [hx] at h
          cases h
          obtain ⟨py, hr1⟩ := ih _ _ _ hr.tail hx
          have hop : oneOp (if (here r).text = [33] then 18 else 17) = true := by split <;> decide
          refine ⟨⟨.mk ⟨by decide, by decide⟩ (by split <;> exact ⟨by decide, by decide⟩) ⟨by decide, by decide⟩ hr.here.ati (by simp) (fun j z hz => ?_), rightE_iff.2 ⟨by omega, .inr (.inr (.inl ⟨rfl, hop, rfl, rfl, y, rfl, ?_⟩))⟩, fun k => by simp [Ex.k] at k⟩, hr1⟩
          · match j, hz with
            | 0, hz => simp at hz; subst hz; exact py.ok
            | j + 1, hz => simp at hz
          · split
            · rename_i hk; exact py.par hk
            · exact py.r
    · exact leaf_right e (by omega) r x r' hr h
theorem expr_right {e : Nat} {r r' : List Tok} {x : Ex} (hr : TsOk r) (h : exprP e 64 r = .ok (x, r')) : OkE x ∧ rightE x 0 = true ∧ TsOk r' := exprW_right (by omega) (unary_goes e 64) (unary_right e 64 0 rfl) hr h
end ParS


/- What is parsed may be written: statements, programs. -/
namespace ParS
open Sx LexS
set_option linter.unusedVariables false
set_option linter.unusedSimpArgs false

def SReads (st : List Tok → PR Sm) (d : Nat) : Prop := ∀ r s r', TsOk r → st r = .ok (s, r') → OkS s ∧ rightS s d = true ∧ TsOk r'
def BReads (bk : List Tok → PR (List Sm)) (d : Nat) : Prop := ∀ r l r', TsOk r → bk r = .ok (l, r') → OkSs l ∧ (d < 64 ∧ rightSs l (d + 1) = true) ∧ TsOk r'
section
variable {e : Nat} (he : e ≤ 1048576)
theorem want_ts {s : List UInt8} {r r' : List Tok} (hr : TsOk r) (h : want e s r = .ok r') : TsOk r' := by obtain ⟨_, rfl⟩ := want_ok h; exact hr.tail
theorem name_ts {r r' : List Tok} {t : Tok} (hr : TsOk r) (h : nameP e r = .ok (t, r')) : isName t.text = true ∧ i64 (t.at_ : Int) ∧ TsOk r' := by
  unfold nameP at h; split at h
  · rename_i hk; cases h; exact ⟨hr.here.name hk, hr.here.ati, hr.tail⟩
  · cases h
include he in
theorem atT_i64 {r : List Tok} (hr : TsOk r) : i64 (atT e r : Int) := by
  cases r with
  | nil => exact i64_nat (by show e ≤ _; omega)
  | cons t l => exact TkOk.ati (hr.1 t (.head _))
theorem cond_ts {r r' : List Tok} {x : Ex} (hr : TsOk r) (h : condP e r = .ok (x, r')) : OkE x ∧ rightE x 0 = true ∧ TsOk r' := by
  unfold condP at h
  cases h1 : want e [40] r with
  | error f => rw [h1] at h; cases h
  | ok r1 =>
    rw [h1] at h; simp only at h
    have k1 := want_ts hr h1
    cases h2 : exprP e 64 r1 with
    | error f => rw [h2] at h; cases h
    | ok p =>
      obtain ⟨y, r2⟩ := p
      rw [h2] at h; simp only at h
      obtain ⟨a1, a2, k2⟩ := expr_right k1 h2
      cases h3 : want e [41] r2 with
      | error f => rw [h3] at h; cases h
      | ok r3 => rw [h3] at h; cases h; exact ⟨a1, a2, want_ts k2 h3⟩
theorem semi_ts {r r' : List Tok} {x : Ex} (hr : TsOk r) (h : exprSemi e r = .ok (x, r')) : OkE x ∧ rightE x 0 = true ∧ TsOk r' := by
  unfold exprSemi at h
  cases h2 : exprP e 64 r with
  | error f => rw [h2] at h; cases h
  | ok p =>
    obtain ⟨y, r2⟩ := p
    rw [h2] at h; simp only at h
    obtain ⟨a1, a2, k2⟩ := expr_right hr h2
    cases h3 : want e [59] r2 with
    | error f => rw [h3] at h; cases h
    | ok r3 => rw [h3] at h; cases h; exact ⟨a1, a2, want_ts k2 h3⟩
theorem swap_ts {r r' : List Tok} {o : List UInt8} {x : Ex} (hr : TsOk r) (h : swapP e r = .ok ((o, x), r')) : isName o = true ∧ OkE x ∧ rightE x 0 = true ∧ TsOk r' := by
  unfold swapP at h
  cases h1 : want e [40] r with
  | error f => rw [h1] at h; cases h
  | ok r1 =>
    rw [h1] at h; simp only at h
    have k1 := want_ts hr h1
    cases hn : nameP e r1 with
    | error f => rw [hn] at h; cases h
    | ok p =>
      obtain ⟨t, r2⟩ := p
      rw [hn] at h; simp only at h
      obtain ⟨n1, _, k2⟩ := name_ts k1 hn
      cases h3 : want e [44] r2 with
      | error f => rw [h3] at h; cases h
      | ok r3 =>
        rw [h3] at h; simp only at h
        have k3 := want_ts k2 h3
        cases h4 : exprP e 64 r3 with
        | error f => rw [h4] at h; cases h
        | ok p =>
          obtain ⟨y, r4⟩ := p
          rw [h4] at h; simp only at h
          obtain ⟨a1, a2, k4⟩ := expr_right k3 h4
          cases h5 : want e [41] r4 with
          | error f => rw [h5] at h; cases h
          | ok r5 =>
            rw [h5] at h; simp only at h
            have k5 := want_ts k4 h5
            cases h6 : want e [59] r5 with
            | error f => rw [h6] at h; cases h
            | ok r6 => rw [h6] at h; cases h; exact ⟨n1, a1, a2, want_ts k5 h6⟩
theorem okEs_one {x : Ex} (h : OkE x) : OkEs [x] := ⟨by simp, fun j y hy => by
  match j, hy with
  | 0, hy => simp at hy; subst hy; exact h
  | j + 1, hy => simp at hy⟩
theorem okSs_nil : OkSs [] := ⟨by simp, fun j y hy => by simp at hy⟩
theorem okEs_nil : OkEs [] := ⟨by simp, fun j y hy => by simp at hy⟩
theorem okS_mk {k : Int} {nm other : List UInt8} {es : List Ex} {body els : List Sm} {a : Int} (hk : u8 k) (ha : i64 a) (h1 : OkEs es) (h2 : OkSs body) (h3 : OkSs els) : OkS (.mk k nm other es body els a) := .mk hk ha h1 h2.1 h2.2 h3.1 h3.2
include he in
theorem assign_ts {r r0 r' : List Tok} {s : Sm} {d : Nat} (hr0 : TsOk r0) (hr : TsOk r) (h : assignP e (atT e r0) r = .ok (s, r')) : OkS s ∧ rightS s d = true ∧ TsOk r' := by
  have ha := atT_i64 he hr0
  unfold assignP at h
  cases hn : nameP e r with
  | error f => rw [hn] at h; cases h
  | ok p =>
    obtain ⟨t, r1⟩ := p
    rw [hn] at h; simp only at h
    obtain ⟨n1, _, k1⟩ := name_ts hr hn
    cases h2 : want e [61] r1 with
    | error f => rw [h2] at h; cases h
    | ok r2 =>
      rw [h2] at h; simp only at h
      have k2 := want_ts k1 h2
      split at h
      · cases h3 : swapP e r2.tail with
        | error f => rw [h3] at h; cases h
        | ok p =>
          obtain ⟨⟨o, x⟩, r3⟩ := p
          rw [h3] at h; simp only at h
          cases h
          obtain ⟨n2, a1, a2, k3⟩ := swap_ts k2.tail h3
          refine ⟨okS_mk ⟨by decide, by decide⟩ ha (okEs_one a1) okSs_nil okSs_nil, ?_, k3⟩
          rw [rightS]; simp [hasN, hasE, hasB, nmOk, rightX, rightSs, n1, n2, a2]
      · cases h3 : exprSemi e r2 with
        | error f => rw [h3] at h; cases h
        | ok p =>
          obtain ⟨x, r3⟩ := p
          rw [h3] at h; simp only at h
          cases h
          obtain ⟨a1, a2, k3⟩ := semi_ts k2 h3
          refine ⟨okS_mk ⟨by decide, by decide⟩ ha (okEs_one a1) okSs_nil okSs_nil, ?_, k3⟩
          rw [rightS]; simp [hasN, hasE, hasB, nmOk, rightX, rightSs, n1, a2]
include he in
theorem stmtW_right {bk : List Tok → PR (List Sm)} {d : Nat} (hb : BReads bk d) : SReads (stmtW e bk) d := by
  intro r s r' hr h
  have ha := atT_i64 he hr
  unfold stmtW at h
  split at h
  · cases h1 : condP e r.tail with
    | error f => rw [h1] at h; cases h
    | ok p =>
      obtain ⟨x, r1⟩ := p
      rw [h1] at h; simp only at h
      obtain ⟨a1, a2, k1⟩ := cond_ts hr.tail h1
      cases h2 : bk r1 with
      | error f => rw [h2] at h; cases h
      | ok p =>
        obtain ⟨b, r2⟩ := p
        rw [h2] at h; simp only at h
        obtain ⟨b1, b2, k2⟩ := hb _ _ _ k1 h2
        split at h
        · cases h3 : bk r2.tail with
          | error f => rw [h3] at h; cases h
          | ok p =>
            obtain ⟨l, r3⟩ := p
            rw [h3] at h; simp only at h
            cases h
            obtain ⟨c1, c2, k3⟩ := hb _ _ _ k2.tail h3
            refine ⟨okS_mk ⟨by decide, by decide⟩ ha (okEs_one a1) b1 c1, ?_, k3⟩
            rw [rightS]; simp [hasN, hasE, hasB, nmOk, rightX, a2, b2.1, b2.2, c2.2]
        · cases h
          refine ⟨okS_mk ⟨by decide, by decide⟩ ha (okEs_one a1) b1 okSs_nil, ?_, k2⟩
          rw [rightS]; simp [hasN, hasE, hasB, nmOk, rightX, rightSs, a2, b2.1, b2.2]
  · split at h
    · cases h1 : condP e r.tail with
      | error f => rw [h1] at h; cases h
      | ok p =>
        obtain ⟨x, r1⟩ := p
        rw [h1] at h; simp only at h
        obtain ⟨a1, a2, k1⟩ := cond_ts hr.tail h1
        cases h2 : bk r1 with
        | error f => rw [h2] at h; cases h
        | ok p =>
          obtain ⟨b, r2⟩ := p
          rw [h2] at h; simp only at h
          cases h
          obtain ⟨b1, b2, k2⟩ := hb _ _ _ k1 h2
          refine ⟨okS_mk ⟨by decide, by decide⟩ ha (okEs_one a1) b1 okSs_nil, ?_, k2⟩
          rw [rightS]; simp [hasN, hasE, hasB, nmOk, rightX, rightSs, a2, b2.1, b2.2]
    · split at h
      · cases h1 : nameP e r.tail with
        | error f => rw [h1] at h; cases h
        | ok p =>
          obtain ⟨t, r1⟩ := p
          rw [h1] at h; simp only at h
          obtain ⟨n1, _, k1⟩ := name_ts hr.tail h1
          cases h2 : bk r1 with
          | error f => rw [h2] at h; cases h
          | ok p =>
            obtain ⟨b, r2⟩ := p
            rw [h2] at h; simp only at h
            cases h
            obtain ⟨b1, b2, k2⟩ := hb _ _ _ k1 h2
            refine ⟨okS_mk ⟨by decide, by decide⟩ ha okEs_nil b1 okSs_nil, ?_, k2⟩
            rw [rightS]; simp [hasN, hasE, hasB, nmOk, rightX, rightSs, n1, b2.1, b2.2]
      · split at h
        · cases h1 : exprSemi e r.tail with
          | error f => rw [h1] at h; cases h
          | ok p =>
            obtain ⟨x, r1⟩ := p
            rw [h1] at h; simp only at h
            cases h
            obtain ⟨a1, a2, k1⟩ := semi_ts hr.tail h1
            refine ⟨okS_mk ⟨by decide, by decide⟩ ha (okEs_one a1) okSs_nil okSs_nil, ?_, k1⟩
            rw [rightS]; simp [hasN, hasE, hasB, nmOk, rightX, rightSs, a2]
        · split at h
          · cases h1 : want e [59] r.tail with
            | error f => rw [h1] at h; cases h
            | ok r1 =>
              rw [h1] at h; simp only at h
              cases h
              refine ⟨okS_mk ⟨by decide, by decide⟩ ha okEs_nil okSs_nil okSs_nil, ?_, want_ts hr.tail h1⟩
              rw [rightS]; simp [hasN, hasE, hasB, nmOk, rightX, rightSs]
          · exact assign_ts he hr hr h
theorem restW_right {st : List Tok → PR Sm} {d : Nat} (hs : SReads st d) : ∀ (n : Nat) (r : List Tok) (l : List Sm) (r' : List Tok), TsOk r → restW st n r = .ok (l, r') → (l.length < n ∧ ∀ x ∈ l, OkS x) ∧ rightSs l d = true ∧ TsOk r'
  | 0, r, l, r', _, h => by simp [restW] at h
  | n + 1, r, l, r', hr, h => by
    simp only [restW] at h
    split at h
    · cases h; exact ⟨⟨by simp, by simp⟩, rfl, hr.tail⟩
    · cases h1 : st r with
      | error f => rw [h1] at h; cases h
      | ok p =>
        obtain ⟨s, r1⟩ := p
        rw [h1] at h; simp only at h
        obtain ⟨a1, a2, k1⟩ := hs _ _ _ hr h1
        cases h2 : restW st n r1 with
        | error f => rw [h2] at h; cases h
        | ok p =>
          obtain ⟨l2, r2⟩ := p
          rw [h2] at h; simp only at h
          cases h
          obtain ⟨⟨b1, b2⟩, b3, k2⟩ := restW_right hs n r1 l2 _ k1 h2
          refine ⟨⟨by simp; omega, fun x hx => ?_⟩, by rw [rightSs, a2, b3]; rfl, k2⟩
          rcases List.mem_cons.1 hx with rfl | hx
          · exact a1
          · exact b2 x hx
theorem okSs_of {l : List Sm} (h : l.length ≤ 1099511627776) (hx : ∀ x ∈ l, OkS x) : OkSs l := ⟨h, fun j x hj => hx x (List.mem_of_getElem? hj)⟩
include he in
theorem stmt_right : ∀ (m d : Nat), d + m = 64 → SReads (stmtP e m) d
  | 0, d, hd => by
    intro r s r' hr h
    rw [stmtP] at h
    refine stmtW_right he (bk := fun r => if isT [123] r = true then fail e 3 r else fail e 2 r) (fun r l r' _ h => ?_) r s r' hr h
    dsimp only at h
    split at h <;> cases h
  | m + 1, d, hd => by
    intro r s r' hr h
    rw [stmtP] at h
    refine stmtW_right he (bk := fun r => match want e [123] r with | .error f => .error f | .ok r1 => restW (stmtP e m) (r1.length + 1) r1) (fun r l r' hr h => ?_) r s r' hr h
    dsimp only at h
    cases h1 : want e [123] r with
    | error f => rw [h1] at h; cases h
    | ok r1 =>
      rw [h1] at h; simp only at h
      have k1 := want_ts hr h1
      obtain ⟨⟨a1, a2⟩, a3, k2⟩ := restW_right (stmt_right m (d + 1) (by omega)) _ _ _ _ k1 h
      exact ⟨okSs_of (by have := k1.2; omega) a2, ⟨by omega, a3⟩, k2⟩
include he in
theorem rest_right {r r' : List Tok} {l : List Sm} (hr : TsOk r) (h : restP e 63 r = .ok (l, r')) : OkSs l ∧ rightSs l 1 = true ∧ TsOk r' := by
  obtain ⟨⟨a1, a2⟩, a3, k⟩ := restW_right (stmt_right he 63 1 rfl) _ _ _ _ hr h
  exact ⟨okSs_of (by have := hr.2; omega) a2, a3, k⟩

/-! ### programs -/
def DOk (b : Bool) (x : Dc) : Prop := dcOk b x = true ∧ i64 x.wd ∧ i64 x.a
theorem decl_right {r r' : List Tok} {x : Dc} (hr : TsOk r) (h : declP e r = .ok (x, r')) : DOk false x ∧ TsOk r' := by
  unfold declP at h
  cases hn : nameP e r with
  | error f => rw [hn] at h; cases h
  | ok p =>
    obtain ⟨t, r1⟩ := p
    rw [hn] at h; simp only at h
    cases h
    obtain ⟨n1, n2, k⟩ := name_ts hr hn
    exact ⟨⟨by simp [dcOk, n1], i64_nat (n := 0) (by omega), n2⟩, k⟩
theorem init_right {r r' : List Tok} {x : Dc} (hr : TsOk r) (h : initP e r = .ok (x, r')) : DOk true x ∧ TsOk r' := by
  unfold initP at h
  cases hn : nameP e r with
  | error f => rw [hn] at h; cases h
  | ok p =>
    obtain ⟨t, r1⟩ := p
    rw [hn] at h; simp only at h
    obtain ⟨n1, n2, k⟩ := name_ts hr hn
    split at h
    · obtain ⟨R, hR⟩ : ∃ R, R = (if isT [45] r1.tail = true then r1.tail.tail else r1.tail) := ⟨_, rfl⟩
      have kR : TsOk R := by
        rw [hR]; split
        · exact k.tail.tail
        · exact k.tail
      rw [← hR] at h
      split at h
      · cases h
      · rename_i y r2 hw
        cases h
        unfold wordP at hw
        split at hw
        · cases hw
          have hh := kR.here.word
          refine ⟨⟨?_, ?_, n2⟩, kR.tail⟩
          · simp only [dcOk, n1, Bool.true_and, if_true, decide_eq_true_eq, ne_eq]; split <;> omega
          · show i64 (if _ then _ else _)
            split
            · exact i64_neg hh
            · exact i64_nat hh
        · cases hw
    · cases h
      exact ⟨⟨by simp [dcOk, n1], i64_nat (n := 0) (by omega), n2⟩, k⟩
theorem decl_len {r r' : List Tok} {x : Dc} (h : declP e r = .ok (x, r')) : r'.length < r.length := by
  unfold declP nameP at h
  split at h
  · cases h
  · rename_i t r1 hn
    split at hn
    · rename_i hk
      cases hn; cases h
      exact tail_lt (kind_ne hk (by decide))
    · cases hn
theorem init_len {r r' : List Tok} {x : Dc} (h : initP e r = .ok (x, r')) : r'.length < r.length := by
  unfold initP nameP at h
  split at h
  · cases h
  · rename_i t r1 hn
    split at hn
    · rename_i hk
      cases hn
      have h0 := tail_lt (kind_ne hk (by decide))
      split at h
      · obtain ⟨R, hR⟩ : ∃ R, R = (if isT [45] r.tail.tail = true then r.tail.tail.tail else r.tail.tail) := ⟨_, rfl⟩
        have kR : R.length ≤ r.tail.length := by rw [hR]; split <;> simp only [List.length_tail] <;> omega
        rw [← hR] at h
        unfold wordP at h
        split at h
        · cases h
        · rename_i y r2 hw
          split at hw
          · cases hw; cases h
            have : R.tail.length ≤ R.length := by simp
            omega
          · cases hw
      · cases h; exact h0
    · cases hn
theorem list_right {one : List Tok → PR Dc} {b : Bool} (ho : ∀ r x r', TsOk r → one r = .ok (x, r') → DOk b x ∧ TsOk r') (hl : ∀ r x r', one r = .ok (x, r') → r'.length < r.length) : ∀ (n : Nat) (r : List Tok) (l : List Dc) (r' : List Tok), TsOk r → listP e one n r = .ok (l, r') → (∀ x ∈ l, DOk b x) ∧ l.length + r'.length ≤ r.length ∧ TsOk r'
  | 0, r, l, r', _, h => by simp [listP] at h
  | n + 1, r, l, r', hr, h => by
    simp only [listP] at h
    cases h1 : one r with
    | error f => rw [h1] at h; cases h
    | ok p =>
      obtain ⟨x, r1⟩ := p
      rw [h1] at h; simp only at h
      obtain ⟨a1, k1⟩ := ho _ _ _ hr h1
      have g1 := hl _ _ _ h1
      split at h
      · rename_i hc
        cases h2 : listP e one n r1.tail with
        | error f => rw [h2] at h; cases h
        | ok p =>
          obtain ⟨l2, r2⟩ := p
          rw [h2] at h; simp only at h
          cases h
          obtain ⟨b1, b2, k2⟩ := list_right ho hl n _ _ _ k1.tail h2
          have := tail_lt (isT_ne hc)
          refine ⟨fun y hy => ?_, by simp only [List.length_cons]; omega, k2⟩
          rcases List.mem_cons.1 hy with rfl | hy
          · exact a1
          · exact b1 y hy
      · cases h2 : want e [59] r1 with
        | error f => rw [h2] at h; cases h
        | ok r2 =>
          rw [h2] at h; simp only at h
          cases h
          obtain ⟨hc, rfl⟩ := want_ok h2
          have := tail_lt (isT_ne hc)
          refine ⟨fun y hy => ?_, by simp only [List.length_cons, List.length_nil]; omega, k1.tail⟩
          simp only [List.mem_cons, List.not_mem_nil, or_false] at hy
          subst hy; exact a1
theorem okD_of {b : Bool} {l : List Dc} (h : l.length ≤ 1099511627776) (hx : ∀ x ∈ l, DOk b x) : OkD l := ⟨h, fun j x hj => (hx x (List.mem_of_getElem? hj)).2⟩
theorem all_of {b : Bool} {l : List Dc} (hx : ∀ x ∈ l, DOk b x) : l.all (dcOk b) = true := List.all_eq_true.2 fun x h => (hx x h).1
theorem locals_right : ∀ (n : Nat) (r : List Tok) (l : List Dc) (r' : List Tok), TsOk r → localsP e n r = .ok (l, r') → (∀ x ∈ l, DOk false x) ∧ l.length + r'.length ≤ r.length ∧ TsOk r'
  | 0, r, l, r', _, h => by simp [localsP] at h
  | n + 1, r, l, r', hr, h => by
    simp only [localsP] at h
    split at h
    · rename_i hc
      have g0 := tail_lt (isT_ne hc)
      cases h1 : listP e (declP e) (r.length + 1) r.tail with
      | error f => rw [h1] at h; cases h
      | ok p =>
        obtain ⟨l1, r1⟩ := p
        rw [h1] at h; simp only at h
        obtain ⟨a1, a2, k1⟩ := list_right (fun _ _ _ h1 h2 => decl_right h1 h2) (fun _ _ _ h => decl_len h) _ _ _ _ hr.tail h1
        cases h2 : localsP e n r1 with
        | error f => rw [h2] at h; cases h
        | ok p =>
          obtain ⟨l2, r2⟩ := p
          rw [h2] at h; simp only at h
          cases h
          obtain ⟨b1, b2, k2⟩ := locals_right n _ _ _ k1 h2
          refine ⟨fun y hy => ?_, by simp only [List.length_append]; omega, k2⟩
          rcases List.mem_append.1 hy with hy | hy
          · exact a1 y hy
          · exact b1 y hy
    · cases h
      exact ⟨by simp, by simp, hr⟩
def TOk (t : Th) : Prop := thOk t = true ∧ OkD t.locals ∧ OkSs t.body ∧ i64 t.a
include he in
theorem thread_right {r r' : List Tok} {t : Th} (hr : TsOk r) (h : threadP e r = .ok (t, r')) : TOk t ∧ TsOk r' := by
  unfold threadP at h
  cases hn : nameP e r with
  | error f => rw [hn] at h; cases h
  | ok p =>
    obtain ⟨t0, r1⟩ := p
    rw [hn] at h; simp only at h
    obtain ⟨n1, n2, k1⟩ := name_ts hr hn
    cases h2 : want e [123] r1 with
    | error f => rw [h2] at h; cases h
    | ok r2 =>
      rw [h2] at h; simp only at h
      have k2 := want_ts k1 h2
      cases h3 : localsP e (r2.length + 1) r2 with
      | error f => rw [h3] at h; cases h
      | ok p =>
        obtain ⟨l, r3⟩ := p
        rw [h3] at h; simp only at h
        obtain ⟨a1, a2, k3⟩ := locals_right _ _ _ _ k2 h3
        cases h4 : restP e 63 r3 with
        | error f => rw [h4] at h; cases h
        | ok p =>
          obtain ⟨b, r4⟩ := p
          rw [h4] at h; simp only at h
          cases h
          obtain ⟨b1, b2, k4⟩ := rest_right he k3 h4
          refine ⟨⟨?_, okD_of (by have := k2.2; show l.length ≤ _; omega) a1, b1, n2⟩, k4⟩
          simp [thOk, n1, all_of a1, b2]
include he in
theorem threads_right : ∀ (n : Nat) (r : List Tok) (l : List Th) (r' : List Tok), TsOk r → threadsP e n r = .ok (l, r') → (∀ x ∈ l, TOk x) ∧ l.length < n ∧ TsOk r'
  | 0, r, l, r', _, h => by simp [threadsP] at h
  | n + 1, r, l, r', hr, h => by
    simp only [threadsP] at h
    split at h
    · cases h1 : threadP e r.tail with
      | error f => rw [h1] at h; cases h
      | ok p =>
        obtain ⟨t, r1⟩ := p
        rw [h1] at h; simp only at h
        obtain ⟨a1, k1⟩ := thread_right he hr.tail h1
        cases h2 : threadsP e n r1 with
        | error f => rw [h2] at h; cases h
        | ok p =>
          obtain ⟨l2, r2⟩ := p
          rw [h2] at h; simp only at h
          cases h
          obtain ⟨b1, b2, k2⟩ := threads_right n _ _ _ k1 h2
          refine ⟨fun y hy => ?_, by simp only [List.length_cons]; omega, k2⟩
          rcases List.mem_cons.1 hy with rfl | hy
          · exact a1
          · exact b1 y hy
    · cases h
      exact ⟨by simp, by simp, hr⟩
include he in
theorem prog_right : ∀ (n : Nat) (r : List Tok) (p : Pg), TsOk r → progP e n r = .ok p → (∀ x ∈ p.shared, DOk true x) ∧ (∀ x ∈ p.locks, DOk false x) ∧ (∀ x ∈ p.threads, TOk x) ∧ p.shared.length + p.locks.length ≤ r.length ∧ p.threads.length ≤ 1048576
  | 0, r, p, _, h => by simp [progP] at h
  | n + 1, r, p, hr, h => by
    simp only [progP] at h
    split at h
    · rename_i hc
      have g0 := tail_lt (isT_ne hc)
      cases h1 : listP e (initP e) (r.length + 1) r.tail with
      | error f => rw [h1] at h; cases h
      | ok q =>
        obtain ⟨l, r1⟩ := q
        rw [h1] at h; simp only at h
        obtain ⟨a1, a2, k1⟩ := list_right (fun _ _ _ h1 h2 => init_right h1 h2) (fun _ _ _ h => init_len h) _ _ _ _ hr.tail h1
        cases h2 : progP e n r1 with
        | error f => rw [h2] at h; cases h
        | ok p2 =>
          rw [h2] at h; simp only at h
          cases h
          obtain ⟨b1, b2, b3, b4, b5⟩ := prog_right n _ _ k1 h2
          refine ⟨fun y hy => ?_, b2, b3, by simp only [List.length_append]; omega, b5⟩
          rcases List.mem_append.1 hy with hy | hy
          · exact a1 y hy
          · exact b1 y hy
    · split at h
      · rename_i hc
        have g0 := tail_lt (isT_ne hc)
        cases h1 : listP e (declP e) (r.length + 1) r.tail with
        | error f => rw [h1] at h; cases h
        | ok q =>
          obtain ⟨l, r1⟩ := q
          rw [h1] at h; simp only at h
          obtain ⟨a1, a2, k1⟩ := list_right (fun _ _ _ h1 h2 => decl_right h1 h2) (fun _ _ _ h => decl_len h) _ _ _ _ hr.tail h1
          cases h2 : progP e n r1 with
          | error f => rw [h2] at h; cases h
          | ok p2 =>
            rw [h2] at h; simp only at h
            cases h
            obtain ⟨b1, b2, b3, b4, b5⟩ := prog_right n _ _ k1 h2
            refine ⟨b1, fun y hy => ?_, b3, by simp only [List.length_append]; omega, b5⟩
            rcases List.mem_append.1 hy with hy | hy
            · exact a1 y hy
            · exact b2 y hy
      · cases h1 : threadsP e (r.length + 1) r with
        | error f => rw [h1] at h; cases h
        | ok q =>
          obtain ⟨l, r1⟩ := q
          rw [h1] at h; simp only at h
          obtain ⟨a1, a2, k1⟩ := threads_right he _ _ _ _ hr h1
          split at h
          · cases h
            exact ⟨by simp, by simp, a1, by simp, by have := hr.2; show l.length ≤ _; omega⟩
          · cases h
end
theorem pg_of {p : Pg} (h1 : ∀ x ∈ p.shared, DOk true x) (h2 : ∀ x ∈ p.locks, DOk false x) (h3 : ∀ x ∈ p.threads, TOk x) (h4 : p.shared.length + p.locks.length ≤ 1048576) (h5 : p.threads.length ≤ 1048576) : pgOk p = true ∧ OkP p := by
  refine ⟨?_, okD_of (by omega) h1, okD_of (by omega) h2, by omega, fun j t hj => (h3 t (List.mem_of_getElem? hj)).2⟩
  unfold pgOk
  rw [all_of h1, all_of h2, List.all_eq_true.2 fun x h => (h3 x h).1]; rfl
theorem front_ts {s : List UInt8} (hs : s.length ≤ 65536) : TsOk (front s).1 := by
  obtain ⟨h1, h2⟩ := front_ok (s := s) (T := (front s).1) (f := (front s).2) rfl
  exact ⟨fun t ht => ⟨(h2 t ht).1, (h2 t ht).2.1, by have := (h2 t ht).2.2; omega⟩, by omega⟩
/-- a program that is parsed may be printed -/
theorem parse_right {s : List UInt8} {p : Pg} {a b : Nat} (h : parseRes s = (p, 0, a, b)) : pgOk p = true ∧ OkP p := by
  unfold parseRes at h
  split at h
  · cases h
  · rename_i hs
    split at h
    · cases h
    · have hts := front_ts (s := s) (by omega)
      split at h
      · cases h
      · rename_i q hq
        cases h
        obtain ⟨h1, h2, h3, h4, h5⟩ := prog_right (e := s.length) (by omega) _ _ _ hts hq
        have := hts.2
        exact pg_of h1 h2 h3 (by omega) h5
end ParS


/- Tokens, glued with blanks and remarks between: parsed as they were, but for places. -/
namespace ParS
open Sx LexS
set_option linter.unusedVariables false
set_option linter.unusedSimpArgs false

def sepB : Nat → List UInt8
  | 0 => [32]
  | 1 => [10]
  | 2 => [9, 32, 13]
  | 3 => [32, 47, 47, 32, 97, 32, 114, 101, 109, 97, 114, 107, 10]
  | _ => [32, 32, 47, 47, 10, 10]
/-- what stands ahead of the token 'i' -/
def gapB (gaps : List UInt8) (i : Nat) : Nat := if i < gaps.length then (gaps.getD i 0).toNat % 5 else 0
def glueB (gaps : List UInt8) : Nat → List Tok → List UInt8
  | _, [] => []
  | i, t :: r => sepB (gapB gaps i) ++ (t.text ++ glueB gaps (i + 1) r)
theorem glueB_snoc (gaps : List UInt8) : ∀ (T : List Tok) (i : Nat) (t : Tok), glueB gaps i (T ++ [t]) = glueB gaps i T ++ (sepB (gapB gaps (i + T.length)) ++ t.text)
  | [], i, t => by simp [glueB]
  | x :: T, i, t => by
    simp only [List.cons_append, glueB, glueB_snoc gaps T (i + 1) t, List.append_assoc, List.length_cons]
    rw [show i + 1 + T.length = i + (T.length + 1) by omega]
theorem glueB_take (gaps : List UInt8) (T : List Tok) (j : Nat) (hj : j < T.length) : glueB gaps 0 (T.take (j + 1)) = (glueB gaps 0 (T.take j) ++ sepB (gapB gaps j)) ++ T[j].text := by
  rw [List.take_succ_eq_append_getElem hj, glueB_snoc, List.append_assoc]
  simp [Nat.min_eq_left (Nat.le_of_lt hj)]
theorem sepB_len (k : Nat) : (sepB k).length ≤ 13 := by
  match k with
  | 0 => decide
  | 1 => decide
  | 2 => decide
  | 3 => decide
  | k + 4 => simp [sepB]
theorem lx_rem {q : List UInt8} (hr : isRem q = true) (hno : ∀ c ∈ q, c ≠ 10) (Z : List UInt8) : Lx q [] (10 :: Z) := by
  intro i
  refine ⟨[], rfl, ?_⟩
  have h2 : isRem (q ++ 10 :: Z) = true := by
    match q, hr with
    | [], h => simp [isRem] at h
    | [_], h => simp [isRem] at h
    | a :: b :: r, h => exact h
  have hd : (q ++ 10 :: Z).drop q.length = 10 :: Z := List.drop_left
  have hk : skip (q ++ 10 :: Z) = q.length + skip ((q ++ 10 :: Z).drop q.length) := by rw [skip_rem h2, toLf_no q Z hno]
  rw [scanA_drop hk (by simp) i, hd]
  simp
theorem lx_bl (l : List UInt8) (h : l.all isBlank = true) (Z : List UInt8) : Lx l [] Z := by
  induction l with
  | nil => exact Lx.nil Z
  | cons c l ih =>
    simp only [List.all_cons, Bool.and_eq_true] at h
    exact Lx.app (l := [c]) (T := []) (Lx.blank h.1 (l ++ Z)) (ih h.2)
theorem lx_sep (k : Nat) (Z : List UInt8) : Lx (sepB k) [] Z := by
  have h3 : Lx (sepB 3) [] Z := Lx.app (l := [32]) (T := []) (m := [47, 47, 32, 97, 32, 114, 101, 109, 97, 114, 107, 10]) (lx_bl [32] (by decide) _) (Lx.app (l := [47, 47, 32, 97, 32, 114, 101, 109, 97, 114, 107]) (T := []) (m := [10]) (lx_rem (by decide) (by decide) Z) (lx_bl [10] (by decide) Z))
  have h4 : Lx (sepB 4) [] Z := Lx.app (l := [32, 32]) (T := []) (m := [47, 47, 10, 10]) (lx_bl [32, 32] (by decide) _) (Lx.app (l := [47, 47]) (T := []) (m := [10, 10]) (lx_rem (by decide) (by decide) (10 :: Z)) (lx_bl [10, 10] (by decide) Z))
  match k with
  | 0 => exact lx_bl _ (by decide) Z
  | 1 => exact lx_bl _ (by decide) Z
  | 2 => exact lx_bl _ (by decide) Z
  | 3 => exact h3
  | k + 4 => exact h4
theorem sepB_head (k : Nat) : ∃ y M, sepB k = y :: M ∧ isBlank y = true := by
  match k with
  | 0 => exact ⟨_, _, rfl, by decide⟩
  | 1 => exact ⟨_, _, rfl, by decide⟩
  | 2 => exact ⟨_, _, rfl, by decide⟩
  | 3 => exact ⟨_, _, rfl, by decide⟩
  | k + 4 => exact ⟨_, _, rfl, by decide⟩
theorem lx_tok {t : Tok} (h : rgtB t.text t.kind t.word = true) {y : UInt8} (hy : isBlank y = true) (Z : List UInt8) : Lx t.text [t] (y :: Z) := by
  intro i
  obtain ⟨x, hx, h1, h2, h3⟩ := rgt_tok h
  have hs := rgt_skip hx h1
  have hl := tok_len hx
  rw [h1] at hl
  have hk : skip (t.text ++ y :: Z) = 0 := by
    have := skip_keep t.text Z y t.text.length (by omega) (Nat.le_refl _) hy
    rw [List.take_length] at this
    omega
  have ht : tokAt (t.text ++ y :: Z) i = .tok (moved i x) := by
    have := tokAt_app (m := t.text.length) (y := y) (Z := Z) (tokAt_move hx i) (by show x.text.length ≤ _; rw [h1]; exact Nat.le_refl _) hy
    rwa [List.take_length] at this
  refine ⟨[moved i x], ?_, ?_⟩
  · simp only [STk, List.map_cons, List.map_nil, trp, moved]
    have e2 : x.kind = t.kind := by omega
    have e3 : x.word = t.word := by omega
    rw [h1, e2, e3]
  · rw [scanA_tok (t := moved i x) (by rw [hk]; simp; omega) (by rw [hk]; exact ht), hk]
    show (moved i x :: (scanA ((t.text ++ y :: Z).drop (0 + x.text.length)) (i + 0 + x.text.length)).1, (scanA ((t.text ++ y :: Z).drop (0 + x.text.length)) (i + 0 + x.text.length)).2) = _
    rw [h1, Nat.zero_add, Nat.add_zero, List.drop_left]
    rfl
theorem lx_glue (gaps : List UInt8) : ∀ (T : List Tok) (i : Nat), (∀ t ∈ T, rgtB t.text t.kind t.word = true) → Lx (glueB gaps i T ++ [10]) T []
  | [], i, h => lx_bl [10] (by decide) []
  | t :: T, i, h => by
    have ih := lx_glue gaps T (i + 1) (fun x hx => h x (.tail _ hx))
    have hy : ∃ y M, (glueB gaps (i + 1) T ++ [10]) ++ [] = y :: M ∧ isBlank y = true := by
      cases T with
      | nil => exact ⟨10, [], rfl, by decide⟩
      | cons x T =>
        obtain ⟨y, M, e, hb⟩ := sepB_head (gapB gaps (i + 1))
        exact ⟨y, (M ++ (x.text ++ glueB gaps (i + 1 + 1) T) ++ [10] ++ []), by simp only [glueB, e, List.cons_append], hb⟩
    obtain ⟨y, M, e, hb⟩ := hy
    have k1 : Lx t.text [t] ((glueB gaps (i + 1) T ++ [10]) ++ []) := by rw [e]; exact lx_tok (h t (.head _)) hb M
    have k2 := Lx.app k1 ih
    have k3 := Lx.app (lx_sep (gapB gaps i) (t.text ++ (glueB gaps (i + 1) T ++ [10]) ++ [])) k2
    exact Lx.eq k3 (by simp [glueB, List.append_assoc]) (by simp)
theorem glueB_len (gaps : List UInt8) : ∀ (T : List Tok) (i n : Nat), (∀ t ∈ T, t.text.length ≤ n) → (glueB gaps i T).length ≤ T.length * (13 + n)
  | [], i, n, h => by simp [glueB]
  | t :: T, i, n, h => by
    have h1 := glueB_len gaps T (i + 1) n (fun x hx => h x (.tail _ hx))
    have h2 := sepB_len (gapB gaps i)
    have h3 := h t (.head _)
    simp only [glueB, List.length_append, List.length_cons, Nat.add_mul, Nat.one_mul]
    omega
theorem parse_of {s : List UInt8} {T : List Tok} (hs : s.length ≤ 65536) (h : front s = (T, none)) : parseRes s = match progP s.length (T.length + 1) T with
    | .error f => (pg0, 30, f.1, f.2)
    | .ok p => (p, 0, 0, 0) := by
  unfold parseRes
  rw [if_neg (by omega), h]
  rfl
/-- the law -/
theorem blanks_res (s gaps : List UInt8) {T : List Tok} (hs : s.length ≤ 65536) (hf : front s = (T, none)) (hl : (glueB gaps 0 T ++ [10]).length ≤ 65536) :
    (parseRes (glueB gaps 0 T ++ [10])).2.1 = (parseRes s).2.1 ∧ sameP (parseRes s).1 (parseRes (glueB gaps 0 T ++ [10])).1 = true := by
  have hr : ∀ t ∈ T, rgtB t.text t.kind t.word = true := scan_right T s 0 none (by rw [← front_eq]; exact hf)
  obtain ⟨T', h1, h2⟩ := lx_front (lx_glue gaps T 0 hr)
  rw [parse_of hs hf, parse_of hl h2]
  have hst := prog_st (e := s.length) (e' := (glueB gaps 0 T ++ [10]).length) (T.length + 1) T T' h1.symm
  have hlen : T'.length = T.length := STk.len h1
  rw [hlen]
  rcases hst.cases with ⟨f, g, e1, e2, hq⟩ | ⟨p, q, e1, e2, hq⟩
  · rw [e1, e2]; exact ⟨rfl, rfl⟩
  · rw [e1, e2]; exact ⟨rfl, hq⟩
end ParS

