/- A part of the proof: contracts of functions and plain laws; each theorem says its own conditions. -/
import Derived.Test.YtggnfanphcaamaaGreatDoorRows
import Derived.Test.YtggnfanphcaamaaGreatDoorParseOwnK1
import Derived.Test.YtggnfanphcaamaaGreatDoorParseOwnK2
set_option linter.unusedVariables false
set_option linter.unusedSimpArgs false
/- When trees are the same: no program in sight. -/
namespace LexS
open Sx
def zipA {α β : Type} (f : α → β → Bool) : List α → List β → Bool
  | [], [] => true
  | x :: r, y :: s => f x y && zipA f r s
  | _, _ => false
theorem zipA_len {α β : Type} {f : α → β → Bool} : ∀ {a : List α} {b : List β}, a.length ≠ b.length → zipA f a b = false
  | [], [], h => absurd rfl h
  | x :: r, y :: s, h => by simp only [zipA, zipA_len (f := f) (a := r) (b := s) (by simpa using h), Bool.and_false]
  | [], _ :: _, _ => rfl
  | _ :: _, [], _ => rfl
theorem zipA_no {α β : Type} {f : α → β → Bool} : ∀ {a : List α} {b : List β} {j : Nat} {x : α} {y : β}, a[j]? = some x → b[j]? = some y → f x y = false → zipA f a b = false
  | [], _, j, x, y, h, _, _ => by simp at h
  | _ :: _, [], j, x, y, _, h, _ => by simp at h
  | u :: r, v :: s, 0, x, y, h1, h2, h => by simp at h1 h2; subst h1 h2; simp [zipA, h]
  | u :: r, v :: s, j + 1, x, y, h1, h2, h => by simp only [zipA, zipA_no (f := f) (a := r) (b := s) (by simpa using h1) (by simpa using h2) h, Bool.and_false]
theorem zipA_yes {α β : Type} {f : α → β → Bool} : ∀ {a : List α} {b : List β}, a.length = b.length → (∀ (j : Nat) x y, j < a.length → a[j]? = some x → b[j]? = some y → f x y = true) → zipA f a b = true
  | [], [], _, _ => rfl
  | u :: r, v :: s, hl, h => by
    simp only [zipA, Bool.and_eq_true]
    exact ⟨h 0 u v (by simp) rfl rfl, zipA_yes (by simpa using hl) fun j x y hj h1 h2 => h (j + 1) x y (by simp; omega) (by simpa using h1) (by simpa using h2)⟩
  | [], _ :: _, hl, _ => by simp at hl
  | _ :: _, [], hl, _ => by simp at hl
theorem zipA_refl {α : Type} {f : α → α → Bool} {a : List α} (h : ∀ x ∈ a, f x x = true) : zipA f a a = true :=
  zipA_yes rfl fun j x y hj h1 h2 => by rw [h1] at h2; cases h2; exact h x (List.mem_of_getElem? h1)
mutual
def sameE : Ex → Ex → Bool
  | .mk k op wd nm kids a, y => decide (k = y.k ∧ op = y.op ∧ wd = y.wd ∧ nm = y.nm) && sameEs kids y.kids
termination_by structural e => e
def sameEs : List Ex → List Ex → Bool
  | [], l => l.isEmpty
  | x :: r, l => match l with | [] => false | y :: s => sameE x y && sameEs r s
termination_by structural l => l
end
mutual
def plE : Ex → Ex → Bool
  | .mk k op wd nm kids a, y => decide (a = y.a) && plEs kids y.kids
termination_by structural e => e
def plEs : List Ex → List Ex → Bool
  | [], l => l.isEmpty
  | x :: r, l => match l with | [] => false | y :: s => plE x y && plEs r s
termination_by structural l => l
end
theorem sameEs_eq : ∀ (a b : List Ex), sameEs a b = zipA sameE a b
  | [], [] => rfl
  | [], _ :: _ => rfl
  | _ :: _, [] => by simp [sameEs, zipA]
  | x :: r, y :: s => by simp only [sameEs, zipA, sameEs_eq r s]
theorem plEs_eq : ∀ (a b : List Ex), plEs a b = zipA plE a b
  | [], [] => rfl
  | [], _ :: _ => rfl
  | _ :: _, [] => by simp [plEs, zipA]
  | x :: r, y :: s => by simp only [plEs, zipA, plEs_eq r s]
theorem sameE_eq (e y : Ex) : sameE e y = (decide (e.k = y.k ∧ e.op = y.op ∧ e.wd = y.wd ∧ e.nm = y.nm) && zipA sameE e.kids y.kids) := by
  cases e; rw [sameE, sameEs_eq]; rfl
theorem plE_eq (e y : Ex) : plE e y = (decide (e.a = y.a) && zipA plE e.kids y.kids) := by
  cases e; rw [plE, plEs_eq]; rfl
mutual
def sameS : Sm → Sm → Bool
  | .mk k nm other e body els a, y => decide (k = y.k ∧ nm = y.nm ∧ other = y.other) && zipA sameE e y.e && sameSs body y.body && sameSs els y.els
termination_by structural e => e
def sameSs : List Sm → List Sm → Bool
  | [], l => l.isEmpty
  | x :: r, l => match l with | [] => false | y :: s => sameS x y && sameSs r s
termination_by structural l => l
end
mutual
def plS : Sm → Sm → Bool
  | .mk k nm other e body els a, y => decide (a = y.a) && zipA plE e y.e && plSs body y.body && plSs els y.els
termination_by structural e => e
def plSs : List Sm → List Sm → Bool
  | [], l => l.isEmpty
  | x :: r, l => match l with | [] => false | y :: s => plS x y && plSs r s
termination_by structural l => l
end
theorem sameSs_eq : ∀ (a b : List Sm), sameSs a b = zipA sameS a b
  | [], [] => rfl
  | [], _ :: _ => rfl
  | _ :: _, [] => by simp [sameSs, zipA]
  | x :: r, y :: s => by simp only [sameSs, zipA, sameSs_eq r s]
theorem plSs_eq : ∀ (a b : List Sm), plSs a b = zipA plS a b
  | [], [] => rfl
  | [], _ :: _ => rfl
  | _ :: _, [] => by simp [plSs, zipA]
  | x :: r, y :: s => by simp only [plSs, zipA, plSs_eq r s]
theorem sameS_eq (s y : Sm) : sameS s y = (decide (s.k = y.k ∧ s.nm = y.nm ∧ s.other = y.other) && zipA sameE s.e y.e && zipA sameS s.body y.body && zipA sameS s.els y.els) := by
  cases s; rw [sameS, sameSs_eq, sameSs_eq]; rfl
theorem plS_eq (s y : Sm) : plS s y = (decide (s.a = y.a) && zipA plE s.e y.e && zipA plS s.body y.body && zipA plS s.els y.els) := by
  cases s; rw [plS, plSs_eq, plSs_eq]; rfl
def sameD (d y : Dc) : Bool := decide (d.nm = y.nm ∧ d.wd = y.wd)
def eqD (d y : Dc) : Bool := decide (d.nm = y.nm ∧ d.wd = y.wd ∧ d.a = y.a)
def sameT (t y : Th) : Bool := decide (t.nm = y.nm) && zipA sameD t.locals y.locals && zipA sameS t.body y.body
def exT (t y : Th) : Bool := decide (t.a = y.a) && zipA eqD t.locals y.locals && zipA plS t.body y.body
def sameP (p q : Pg) : Bool := zipA sameD p.shared q.shared && zipA sameD p.locks q.locks && zipA sameT p.threads q.threads
def exactP (p q : Pg) : Bool := sameP p q && zipA eqD p.shared q.shared && zipA eqD p.locks q.locks && zipA exT p.threads q.threads
theorem memE_lt {e x : Ex} (h : x ∈ e.kids) : SizeOf.sizeOf x < SizeOf.sizeOf e := by
  cases e with
  | mk k op wd nm kids a =>
    have := List.sizeOf_lt_of_mem h
    simp only [Ex.kids] at this
    simp only [Ex.mk.sizeOf_spec]; omega
theorem memS_lt {s x : Sm} (h : x ∈ s.body ∨ x ∈ s.els) : SizeOf.sizeOf x < SizeOf.sizeOf s := by
  cases s with
  | mk k nm other e body els a =>
    simp only [Sm.body, Sm.els] at h
    simp only [Sm.mk.sizeOf_spec]
    rcases h with h | h <;> (have := List.sizeOf_lt_of_mem h; omega)
theorem sameE_refl : ∀ (n : Nat) (e : Ex), SizeOf.sizeOf e = n → sameE e e = true := by
  intro n
  refine Nat.strongRecOn n fun n ih e hn => ?_
  subst hn
  rw [sameE_eq]
  simp only [and_self, decide_true, Bool.true_and]
  exact zipA_refl fun x hx => ih _ (memE_lt hx) x rfl
theorem plE_refl : ∀ (n : Nat) (e : Ex), SizeOf.sizeOf e = n → plE e e = true := by
  intro n
  refine Nat.strongRecOn n fun n ih e hn => ?_
  subst hn
  rw [plE_eq]
  simp only [decide_true, Bool.true_and]
  exact zipA_refl fun x hx => ih _ (memE_lt hx) x rfl
theorem sameS_refl : ∀ (n : Nat) (s : Sm), SizeOf.sizeOf s = n → sameS s s = true := by
  intro n
  refine Nat.strongRecOn n fun n ih s hn => ?_
  subst hn
  rw [sameS_eq]
  simp only [and_self, decide_true, Bool.true_and, Bool.and_eq_true]
  exact ⟨⟨zipA_refl fun x hx => sameE_refl _ x rfl, zipA_refl fun x hx => ih _ (memS_lt (.inl hx)) x rfl⟩, zipA_refl fun x hx => ih _ (memS_lt (.inr hx)) x rfl⟩
theorem plS_refl : ∀ (n : Nat) (s : Sm), SizeOf.sizeOf s = n → plS s s = true := by
  intro n
  refine Nat.strongRecOn n fun n ih s hn => ?_
  subst hn
  rw [plS_eq]
  simp only [decide_true, Bool.true_and, Bool.and_eq_true]
  exact ⟨⟨zipA_refl fun x hx => plE_refl _ x rfl, zipA_refl fun x hx => ih _ (memS_lt (.inl hx)) x rfl⟩, zipA_refl fun x hx => ih _ (memS_lt (.inr hx)) x rfl⟩
theorem sameP_refl (p : Pg) : sameP p p = true := by
  unfold sameP
  simp only [Bool.and_eq_true]
  refine ⟨⟨zipA_refl fun x _ => by simp [sameD], zipA_refl fun x _ => by simp [sameD]⟩, zipA_refl fun t _ => ?_⟩
  unfold sameT
  simp only [decide_true, Bool.true_and, Bool.and_eq_true]
  exact ⟨zipA_refl fun x _ => by simp [sameD], zipA_refl fun x _ => sameS_refl _ x rfl⟩
theorem exactP_refl (p : Pg) : exactP p p = true := by
  unfold exactP
  simp only [sameP_refl, Bool.true_and, Bool.and_eq_true]
  refine ⟨⟨zipA_refl fun x _ => by simp [eqD], zipA_refl fun x _ => by simp [eqD]⟩, zipA_refl fun t _ => ?_⟩
  unfold exT
  simp only [decide_true, Bool.true_and, Bool.and_eq_true]
  exact ⟨zipA_refl fun x _ => by simp [eqD], zipA_refl fun x _ => plS_refl _ x rfl⟩
end LexS


/- When a tree may be written, and its text: no program in sight. -/
namespace LexS
open Sx
/-! ## when a tree may be written, and its text -/
/-- does a kid of a binary expression stand in parentheses? -/
def inn (op : Int) (x : Ex) (second : Bool) : Bool := decide (x.k = 4) && (decide (lvlO x.op < lvlO op) || second && decide (lvlO x.op = lvlO op))
def rightE : Ex → Nat → Bool
  | .mk k op wd nm kids a, d => decide (d ≤ 64) && (
    if k = 1 then decide (0 ≤ wd ∧ op = 0 ∧ nm = [] ∧ kids.length = 0)
    else if k = 2 then isName nm && decide (op = 0 ∧ wd = 0 ∧ kids.length = 0)
    else if k = 3 then oneOp op && decide (wd = 0 ∧ nm = []) && (match kids with | [x] => rightE x (if x.k = 4 then d + 2 else d + 1) | _ => false)
    else if k = 4 then twoOp op && decide (wd = 0 ∧ nm = []) && (match kids with | [x, y] => rightE x (if inn op x false = true then d + 1 else d) && rightE y (if inn op y true = true then d + 1 else d) | _ => false)
    else false)
def par (b : Bool) (l : List UInt8) : List UInt8 := if b = true then [40] ++ l ++ [41] else l
def hasN (k : Int) : Bool := decide (k = 1 ∨ k = 2 ∨ k = 5)
def hasE (k : Int) : Bool := decide (k = 1 ∨ k = 2 ∨ k = 3 ∨ k = 4 ∨ k = 6)
def hasB (k : Int) : Bool := decide (k = 3 ∨ k = 4 ∨ k = 5)
def nmOk (b : Bool) (l : List UInt8) : Bool := if b = true then isName l else decide (l = [])
def rightX (b : Bool) (e : List Ex) : Bool := if b = true then (match e with | [x] => rightE x 0 | _ => false) else decide (e.length = 0)
mutual
def rightS : Sm → Nat → Bool
  | .mk k nm other e body els a, d => decide (1 ≤ k ∧ k ≤ 7) && nmOk (hasN k) nm && nmOk (decide (k = 2)) other && rightX (hasE k) e && (hasB k || decide (body.length = 0)) && (decide (k = 3) || decide (els.length = 0)) &&
    (!(hasB k || decide (0 < els.length)) || decide (d < 64)) && rightSs body (d + 1) && rightSs els (d + 1)
termination_by structural s => s
def rightSs : List Sm → Nat → Bool
  | [], _ => true
  | s :: r, d => rightS s d && rightSs r d
termination_by structural l => l
end
def dcOk (shared : Bool) (x : Dc) : Bool := isName x.nm && (if shared = true then decide (x.wd ≠ -9223372036854775808) else decide (x.wd = 0))
def thOk (t : Th) : Bool := isName t.nm && t.locals.all (dcOk false) && rightSs t.body 1
def pgOk (p : Pg) : Bool := p.shared.all (dcOk true) && p.locks.all (dcOk false) && p.threads.all thOk
end LexS


/- How long a tree's text is: no program in sight. -/
namespace LexS
open Sx
end LexS


/- Places change no text: no program in sight. -/
namespace LexS
open Sx
section
variable {h : Int → Int}
end
/-! ### twice -/
section
variable {g : List UInt8 → List UInt8} {h g' : List UInt8 → List UInt8} {k k' : Int → Int}
end
/-! ### the numbers stay of their kinds -/
section
variable {g : List UInt8 → List UInt8} {k : Int → Int} (hk : ∀ a, i64 a → i64 (k a))
include hk
end
end LexS


/- A tree renamed: no program in sight. -/
namespace LexS
open Sx
theorem rightE_iff {e : Ex} {d : Nat} : rightE e d = true ↔ d ≤ 64 ∧ ((e.k = 1 ∧ 0 ≤ e.wd ∧ e.op = 0 ∧ e.nm = [] ∧ e.kids = []) ∨ (e.k = 2 ∧ isName e.nm = true ∧ e.op = 0 ∧ e.wd = 0 ∧ e.kids = []) ∨
    (e.k = 3 ∧ oneOp e.op = true ∧ e.wd = 0 ∧ e.nm = [] ∧ ∃ x, e.kids = [x] ∧ rightE x (if x.k = 4 then d + 2 else d + 1) = true) ∨
    (e.k = 4 ∧ twoOp e.op = true ∧ e.wd = 0 ∧ e.nm = [] ∧ ∃ x y, e.kids = [x, y] ∧ rightE x (if inn e.op x false = true then d + 1 else d) = true ∧ rightE y (if inn e.op y true = true then d + 1 else d) = true)) := by
  cases e with
  | mk k op wd nm kids a =>
    simp only [Ex.k, Ex.op, Ex.wd, Ex.nm, Ex.kids]
    rcases kids with _ | ⟨x, _ | ⟨y, _ | ⟨z, r⟩⟩⟩ <;>
    · simp only [rightE, Bool.and_eq_true, decide_eq_true_eq]
      refine and_congr_right fun _ => ?_
      by_cases h1 : k = 1
      · subst h1; simp
      by_cases h2 : k = 2
      · subst h2; simp
      by_cases h3 : k = 3
      · subst h3; simp [and_assoc] <;> (try (intros; constructor <;> intro h <;> first | exact h | exact ⟨_, rfl, h⟩ | exact ⟨_, _, rfl, rfl, h⟩ | exact ⟨_, rfl, _, rfl, h⟩ | (obtain ⟨_, rfl, h⟩ := h; exact h) | (obtain ⟨_, _, rfl, rfl, h⟩ := h; exact h) | (obtain ⟨_, rfl, _, rfl, h⟩ := h; exact h)))
      by_cases h4 : k = 4
      · subst h4; simp [and_assoc] <;> (try (intros; constructor <;> intro h <;> first | exact h | exact ⟨_, rfl, h⟩ | exact ⟨_, _, rfl, rfl, h⟩ | exact ⟨_, rfl, _, rfl, h⟩ | (obtain ⟨_, rfl, h⟩ := h; exact h) | (obtain ⟨_, _, rfl, rfl, h⟩ := h; exact h) | (obtain ⟨_, rfl, _, rfl, h⟩ := h; exact h)))
      simp [h1, h2, h3, h4]
section
variable {g : Wd → Wd} {h : Int → Int}
end
end LexS


/- The tokens of a tree, and that they are parsed as the tree: expressions. -/
namespace ParS
open Sx LexS

section
variable (k op wd : Int) (nm : List UInt8) (kids : List Ex) (a : Int)
end
/-! ### how far readers go -/
theorem flatE_len (u : List Tok → PR Ex) (hu : Goes u) : ∀ (n : Nat) (r : List Tok) (l : List Flat) (r' : List Tok), flatE u n r = .ok (l, r') → r'.length ≤ r.length
  | 0, r, l, r', h => by simp [flatE] at h
  | n + 1, r, l, r', h => by
    simp only [flatE] at h
    cases hop : opT (here r) with
    | none => rw [hop] at h; cases h; exact Nat.le_refl _
    | some op =>
      rw [hop] at h
      simp only at h
      cases hx : u r.tail with
      | error f => rw [hx] at h; cases h
      | ok p =>
        obtain ⟨x, r1⟩ := p
        rw [hx] at h
        simp only at h
        cases hf : flatE u n r1 with
        | error f => rw [hf] at h; cases h
        | ok q =>
          obtain ⟨l1, r2⟩ := q
          rw [hf] at h
          cases h
          have := flatE_len u hu n r1 l1 _ hf
          have := hu _ _ _ hx
          have := tail_lt (opT_ne hop)
          omega
theorem exprW_goes {u : List Tok → PR Ex} (hu : Goes u) : Goes (exprW u) := by
  intro r x r' h
  unfold exprW at h
  cases hx : u r with
  | error f => rw [hx] at h; cases h
  | ok p =>
    obtain ⟨y, r1⟩ := p
    rw [hx] at h
    simp only at h
    cases hf : flatE u (r1.length + 1) r1 with
    | error f => rw [hf] at h; cases h
    | ok q =>
      obtain ⟨l1, r2⟩ := q
      rw [hf] at h
      cases h
      have := flatE_len u hu _ _ _ _ hf
      have := hu _ _ _ hx
      omega
theorem leaf_goes (e : Nat) : Goes (leafP e) := by
  intro r x r' h
  unfold leafP at h
  split at h
  · rename_i hk; cases h; exact tail_lt (kind_ne hk (by decide))
  · split at h
    · rename_i hk; cases h; exact tail_lt (kind_ne hk (by decide))
    · cases h
theorem unary_goes (e : Nat) : ∀ m, Goes (unaryP e m)
  | 0 => by
    intro r x r' h
    simp only [unaryP] at h
    split at h
    · cases h
    · exact leaf_goes e r x r' h
  | m + 1 => by
    intro r x r' h
    simp only [unaryP] at h
    split at h
    · rename_i hi
      have h0 := tail_lt (inner_ne hi)
      split at h
      · cases hx : exprW (unaryP e m) r.tail with
        | error f => rw [hx] at h; cases h
        | ok p =>
          obtain ⟨y, r1⟩ := p
          rw [hx] at h
          simp only at h
          have h1 := exprW_goes (unary_goes e m) _ _ _ hx
          cases hw : want e [41] r1 with
          | error f => rw [hw] at h; cases h
          | ok r2 =>
            rw [hw] at h
            cases h
            obtain ⟨h2, rfl⟩ := want_ok hw
            have := tail_lt (isT_ne h2)
            omega
      · cases hx : unaryP e m r.tail with
        | error f => rw [hx] at h; cases h
        | ok p =>
          obtain ⟨y, r1⟩ := p
          rw [hx] at h
          cases h
          have h1 := unary_goes e m _ _ _ hx
          omega
    · exact leaf_goes e r x r' h
theorem expr_goes (e m : Nat) : Goes (exprP e m) := exprW_goes (unary_goes e m)

section
variable {e : Nat}
end
end ParS


/- The reader that goes on when it has failed: what it computes, against the parser that stops. No program in sight. -/
namespace ParS
open Sx LexS

/-- a reader's state: what is left; the first fault (a rule of 0: none yet) -/
structure RS where
  r : List Tok
  f : Flt
def RS.ok (σ : RS) : Prop := σ.f.2 = 0
instance RS.decOk (σ : RS) : Decidable σ.ok := inferInstanceAs (Decidable (σ.f.2 = 0))
def failR (e k : Nat) (σ : RS) : RS := if σ.ok then ⟨σ.r, (atT e σ.r, k)⟩ else σ
def takeB (s : List UInt8) (σ : RS) : Bool := decide σ.ok && isT s σ.r
def takeR (s : List UInt8) (σ : RS) : RS := if takeB s σ = true then ⟨σ.r.tail, σ.f⟩ else σ
def wantR (e : Nat) (s : List UInt8) (σ : RS) : RS := if takeB s σ = true then ⟨σ.r.tail, σ.f⟩ else failR e 2 σ
def nameB (σ : RS) : Bool := decide σ.ok && decide ((here σ.r).kind = 1)
def nameT (σ : RS) : List UInt8 := if nameB σ = true then (here σ.r).text else []
def nameA (σ : RS) : Nat := if nameB σ = true then (here σ.r).at_ else 0
def nameR (e : Nat) (σ : RS) : RS := if nameB σ = true then ⟨σ.r.tail, σ.f⟩ else failR e 2 σ
/-- what the parser that stops answers from here -/
def run {α : Type} (F : List Tok → PR α) (σ : RS) : PR α := if σ.ok then F σ.r else .error σ.f
/-- the reader's answer is the parser's, or both have failed, in one way -/
def Done {α : Type} (res : PR α) (x : α) (σ' : RS) : Prop := match res with
  | .ok (y, r') => x = y ∧ σ'.r = r' ∧ σ'.f.2 = 0
  | .error f => σ'.f = f ∧ f.2 ≠ 0
theorem run_ok {α : Type} {F : List Tok → PR α} {σ : RS} (h : σ.ok) : run F σ = F σ.r := if_pos h
theorem run_bad {α : Type} {F : List Tok → PR α} {σ : RS} (h : ¬ σ.ok) : run F σ = .error σ.f := if_neg h
theorem Done.bad {α : Type} {F : List Tok → PR α} {σ : RS} (h : ¬ σ.ok) (x : α) : Done (run F σ) x σ := by rw [run_bad h]; exact ⟨rfl, h⟩
theorem Done.bad' {α : Type} {F : List Tok → PR α} {σ σ' : RS} (h : ¬ σ.ok) (hf : σ'.f = σ.f) (x : α) : Done (run F σ) x σ' := by rw [run_bad h]; exact ⟨hf, h⟩
theorem Done.ret {α : Type} (x : α) (σ : RS) : Done (run (fun r => .ok (x, r)) σ) x σ := by
  by_cases h : σ.ok
  · rw [run_ok h]; exact ⟨rfl, rfl, h⟩
  · exact .bad h x
theorem Done.bind {α β : Type} {F : List Tok → PR α} {G : α → List Tok → PR β} {σ σ1 σ2 : RS} {x : α} {y : β} (h1 : Done (run F σ) x σ1) (h2 : Done (run (G x) σ1) y σ2) :
    Done (run (fun r => match F r with | .error f => .error f | .ok (a, r') => G a r') σ) y σ2 := by
  by_cases h : σ.ok
  · rw [run_ok h] at h1 ⊢
    cases hF : F σ.r with
    | error f =>
      rw [hF] at h1
      obtain ⟨e1, e2⟩ := h1
      rw [run_bad (by show ¬ σ1.f.2 = 0; rw [e1]; exact e2)] at h2
      exact ⟨h2.1.trans e1, e2⟩
    | ok p =>
      obtain ⟨a, r'⟩ := p
      rw [hF] at h1
      obtain ⟨rfl, rfl, e3⟩ := h1
      rw [run_ok e3] at h2
      exact h2
  · rw [run_bad h] at h1 ⊢
    obtain ⟨e1, e2⟩ := h1
    rw [run_bad (by show ¬ σ1.f.2 = 0; rw [e1]; exact e2)] at h2
    exact ⟨h2.1.trans e1, e2⟩
theorem failR_ok {e k : Nat} {σ : RS} (h : σ.ok) : failR e k σ = ⟨σ.r, (atT e σ.r, k)⟩ := if_pos h
theorem failR_bad {e k : Nat} {σ : RS} (h : ¬ σ.ok) : failR e k σ = σ := if_neg h
theorem failR_not {e k : Nat} {σ : RS} (hk : k ≠ 0) : ¬ (failR e k σ).ok := by
  by_cases h : σ.ok
  · rw [failR_ok h]; exact hk
  · rw [failR_bad h]; exact h
theorem takeB_bad {s : List UInt8} {σ : RS} (h : ¬ σ.ok) : takeB s σ = false := by simp [takeB, h]
theorem takeB_ok {s : List UInt8} {σ : RS} (h : σ.ok) : takeB s σ = isT s σ.r := by simp [takeB, h]
theorem takeB_pos {s : List UInt8} {σ : RS} (h : takeB s σ = true) : σ.ok ∧ isT s σ.r = true := by simpa [takeB] using h
/-- behind a fault nothing counts -/
theorem Done.of_fail {α : Type} {e k : Nat} (hk : k ≠ 0) {F : List Tok → PR α} {σ σ' : RS} {x : α} (h : σ.ok → F σ.r = ParS.fail e k σ.r) (hf : σ'.f = (failR e k σ).f) : Done (run F σ) x σ' := by
  by_cases ho : σ.ok
  · rw [run_ok ho, h ho]
    rw [failR_ok ho] at hf
    exact ⟨hf, hk⟩
  · rw [failR_bad ho] at hf; exact .bad' ho hf x
theorem Done.want {β : Type} {e : Nat} {s : List UInt8} {G : List Tok → PR β} {σ σ2 : RS} {y : β} (h2 : Done (run G (wantR e s σ)) y σ2) :
    Done (run (fun r => match ParS.want e s r with | .error f => .error f | .ok r' => G r') σ) y σ2 := by
  unfold wantR at h2
  by_cases ht : takeB s σ = true
  · rw [if_pos ht] at h2
    obtain ⟨ho, hi⟩ := takeB_pos ht
    rw [run_ok ho]
    rw [run_ok (by exact ho)] at h2
    rw [want_pos hi]; exact h2
  · rw [if_neg ht] at h2
    by_cases ho : σ.ok
    · rw [run_ok ho]
      rw [takeB_ok ho] at ht
      rw [want_neg (by simpa using ht)]
      rw [run_bad (failR_not (by decide)), failR_ok ho] at h2
      exact h2
    · rw [failR_bad ho, run_bad ho] at h2
      rw [run_bad ho]; exact h2
theorem Done.ifT {β : Type} {s : List UInt8} {G1 G2 : List Tok → PR β} {σ σ2 : RS} {y : β} (ht : takeB s σ = true) (h : Done (run G1 ⟨σ.r.tail, σ.f⟩) y σ2) :
    Done (run (fun r => if isT s r = true then G1 r.tail else G2 r) σ) y σ2 := by
  obtain ⟨ho, hi⟩ := takeB_pos ht
  rw [run_ok ho, if_pos hi]
  rw [run_ok (by exact ho)] at h
  exact h
theorem Done.ifF {β : Type} {s : List UInt8} {G1 G2 : List Tok → PR β} {σ σ2 : RS} {y : β} (ht : takeB s σ = false) (h : Done (run G2 σ) y σ2) :
    Done (run (fun r => if isT s r = true then G1 r.tail else G2 r) σ) y σ2 := by
  by_cases ho : σ.ok
  · rw [run_ok ho] at h ⊢
    rw [takeB_ok ho] at ht
    rw [if_neg (by simp [ht])]; exact h
  · rw [run_bad ho] at h ⊢; exact h
theorem Done.congr {α : Type} {F G : List Tok → PR α} {σ σ' : RS} {x : α} (e : ∀ r, F r = G r) (h : Done (run F σ) x σ') : Done (run G σ) x σ' := by
  rw [show F = G from funext e] at h; exact h
theorem Done.at_ {α : Type} {F G : List Tok → PR α} {σ σ' : RS} {x : α} (e : F σ.r = G σ.r) (h : Done (run F σ) x σ') : Done (run G σ) x σ' := by
  by_cases ho : σ.ok
  · rw [run_ok ho] at h ⊢; rw [← e]; exact h
  · rw [run_bad ho] at h ⊢; exact h
/-! ### what is left is a rest -/
theorem takeR_suf {s : List UInt8} {σ : RS} : (takeR s σ).r <:+ σ.r := by unfold takeR; split; exact List.tail_suffix _; exact List.suffix_refl _
theorem failR_r {e k : Nat} {σ : RS} : (failR e k σ).r = σ.r := by unfold failR; split <;> rfl
theorem wantR_suf {e : Nat} {s : List UInt8} {σ : RS} : (wantR e s σ).r <:+ σ.r := by
  unfold wantR; split
  · exact List.tail_suffix _
  · rw [failR_r]; exact List.suffix_refl _
theorem nameR_suf {e : Nat} {σ : RS} : (nameR e σ).r <:+ σ.r := by
  unfold nameR; split
  · exact List.tail_suffix _
  · rw [failR_r]; exact List.suffix_refl _
theorem wantR_bad {e : Nat} {s : List UInt8} {σ : RS} (h : ¬ σ.ok) : wantR e s σ = σ := by unfold wantR; rw [takeB_bad h, if_neg (by simp), failR_bad h]
theorem takeR_pos {s : List UInt8} {σ : RS} (h : takeB s σ = true) : takeR s σ = ⟨σ.r.tail, σ.f⟩ := if_pos h
theorem takeR_neg {s : List UInt8} {σ : RS} (h : takeB s σ = false) : takeR s σ = σ := if_neg (by simp [h])
/-! ### expressions -/
def hereE (e : Nat) (ts : List Tok) : Tok := match ts with | t :: _ => t | [] => ⟨0, [], 0, e⟩
theorem hereE_kind (e : Nat) (ts : List Tok) : (hereE e ts).kind = (here ts).kind := by cases ts <;> rfl
theorem hereE_text (e : Nat) (ts : List Tok) : (hereE e ts).text = (here ts).text := by cases ts <;> rfl
theorem hereE_word (e : Nat) (ts : List Tok) : (hereE e ts).word = (here ts).word := by cases ts <;> rfl
theorem hereE_at (e : Nat) (ts : List Tok) : (hereE e ts).at_ = atT e ts := by cases ts <;> rfl
theorem hereE_cons {e : Nat} {ts : List Tok} (h : ts ≠ []) : hereE e ts = here ts := by cases ts with | nil => exact absurd rfl h | cons x l => rfl
theorem Done.ok_inv {α : Type} {F : List Tok → PR α} {σ σ' : RS} {x : α} (h : Done (run F σ) x σ') (ho : σ'.ok) : σ.ok ∧ F σ.r = .ok (x, σ'.r) := by
  by_cases hs : σ.ok
  · refine ⟨hs, ?_⟩
    rw [run_ok hs] at h
    cases hF : F σ.r with
    | error f => rw [hF] at h; exact absurd (show σ'.f.2 = 0 from ho) (by rw [h.1]; exact h.2)
    | ok p => rw [hF] at h; obtain ⟨h1, h2, h3⟩ := h; subst h1; rw [h2]
  · rw [run_bad hs] at h; exact absurd (show σ'.f.2 = 0 from ho) (by rw [h.1]; exact h.2)
theorem climb_start {u : List Tok → PR Ex} {lv : Int} {σ σ1 : RS} {x : Ex} (h : Done (run u σ) x σ1) : run (climbE u lv) σ = run (fun r => loopE u (r.length + 1) lv x r) σ1 := by
  by_cases ho : σ1.ok
  · obtain ⟨h1, h2⟩ := h.ok_inv ho
    rw [run_ok h1, run_ok ho]; unfold climbE; rw [h2]
  · rw [run_bad ho]
    by_cases hs : σ.ok
    · rw [run_ok hs] at h ⊢
      unfold climbE
      cases hu : u σ.r with
      | error f => rw [hu] at h; rw [h.1]
      | ok p => rw [hu] at h; exact absurd h.2.2 ho
    · rw [run_bad hs] at h ⊢; rw [h.1]
theorem loop_end {u : List Tok → PR Ex} {k : Nat} {lv : Int} {x : Ex} {σ : RS} (h : ∀ op, opT (here σ.r) = some op → lvlO (op : Int) < lv) : Done (run (loopE u (k + 1) lv x) σ) x σ := by
  by_cases ho : σ.ok
  · rw [run_ok ho]
    simp only [loopE]
    cases hop : opT (here σ.r) with
    | none => exact ⟨rfl, rfl, ho⟩
    | some op => simp only; rw [if_pos (h op hop)]; exact ⟨rfl, rfl, ho⟩
  · exact .bad ho x
theorem loop_step {u : List Tok → PR Ex} (hu : Goes u) {k : Nat} {lv : Int} {x z : Ex} {σ σ2 : RS} {op : Nat} (ho : σ.ok) (hop : opT (here σ.r) = some op) (hlv : lv ≤ lvlO (op : Int)) (hk : σ.r.length < k + 1)
    (hz : Done (run (climbE u (lvlO (op : Int) + 1)) ⟨σ.r.tail, σ.f⟩) z σ2) : run (loopE u (k + 1) lv x) σ = run (loopE u k lv (binE op (here σ.r).at_ x z)) σ2 := by
  have hne := tail_lt (opT_ne hop)
  rw [run_ok ho]
  have ho' : (RS.mk σ.r.tail σ.f).ok := ho
  rw [run_ok ho'] at hz
  simp only [loopE, hop]
  rw [if_neg (by omega)]
  unfold climbE at hz
  dsimp only at hz
  cases hx : u σ.r.tail with
  | error f =>
    rw [hx] at hz
    have hb : ¬ σ2.ok := by show ¬ σ2.f.2 = 0; rw [hz.1]; exact hz.2
    simp only
    rw [run_bad hb, hz.1]
  | ok p =>
    obtain ⟨y, r1⟩ := p
    rw [hx] at hz
    simp only at hz ⊢
    have hr1 := hu _ _ _ hx
    rw [loopE_fuel u hu (fun n lv x r z r' h => loopE_len u hu n lv x r z r' h) (r1.length + 1) k _ _ _ (by omega) (by omega)] at hz
    cases hl : loopE u k (lvlO (op : Int) + 1) y r1 with
    | error f =>
      rw [hl] at hz
      have hb : ¬ σ2.ok := by show ¬ σ2.f.2 = 0; rw [hz.1]; exact hz.2
      simp only
      rw [run_bad hb, hz.1]
    | ok q =>
      obtain ⟨z1, r2⟩ := q
      rw [hl] at hz
      obtain ⟨rfl, h2, h3⟩ := hz
      rw [run_ok h3, h2]
/-! what an operand is -/
theorem kind_inner {r : List Tok} (h : (here r).kind = 3 ∨ (here r).kind = 1) : innerT r = false := by
  unfold innerT isT
  rcases h with h | h <;> rw [h] <;> simp
theorem unary_num {e m : Nat} {σ : RS} (ho : σ.ok) (hk : (here σ.r).kind = 3) : Done (run (unaryP e m) σ) (.mk 1 0 ((here σ.r).word : Int) [] [] ((here σ.r).at_ : Int)) ⟨σ.r.tail, σ.f⟩ := by
  rw [run_ok ho]
  have hi := kind_inner (.inl hk)
  have hl : leafP e σ.r = .ok (.mk 1 0 ((here σ.r).word : Int) [] [] ((here σ.r).at_ : Int), σ.r.tail) := by unfold leafP; rw [if_pos hk]
  cases m <;> simp only [unaryP, hi, hl] <;> exact ⟨rfl, rfl, ho⟩
theorem unary_name {e m : Nat} {σ : RS} (ho : σ.ok) (hk : (here σ.r).kind = 1) : Done (run (unaryP e m) σ) (.mk 2 0 0 (here σ.r).text [] ((here σ.r).at_ : Int)) ⟨σ.r.tail, σ.f⟩ := by
  rw [run_ok ho]
  have hi := kind_inner (.inr hk)
  have hl : leafP e σ.r = .ok (.mk 2 0 0 (here σ.r).text [] ((here σ.r).at_ : Int), σ.r.tail) := by unfold leafP; rw [if_neg (by omega), if_pos hk]
  cases m <;> simp only [unaryP, hi, hl] <;> exact ⟨rfl, rfl, ho⟩
theorem unary_deep {e : Nat} {σ : RS} (hi : innerT σ.r = true) (x : Ex) : Done (run (unaryP e 0) σ) x (failR e 3 σ) := .of_fail (k := 3) (by decide) (fun _ => by simp only [unaryP, hi, if_true]) rfl
theorem unary_none {e m : Nat} {σ : RS} (hi : innerT σ.r = false) (h3 : (here σ.r).kind ≠ 3) (h1 : (here σ.r).kind ≠ 1) (x : Ex) : Done (run (unaryP e m) σ) x (failR e 2 σ) := by
  refine .of_fail (k := 2) (by decide) (fun _ => ?_) rfl
  have hl : leafP e σ.r = ParS.fail e 2 σ.r := by unfold leafP; rw [if_neg h3, if_neg h1]
  cases m <;> simp only [unaryP, hi, hl] <;> rfl
theorem unary_par {e m : Nat} {σ σ2 : RS} {x : Ex} (ht : takeB [40] σ = true) (h : Done (run (climbE (unaryP e m) 1) ⟨σ.r.tail, σ.f⟩) x σ2) : Done (run (unaryP e (m + 1)) σ) x (wantR e [41] σ2) := by
  obtain ⟨ho, hi⟩ := takeB_pos ht
  have h1 : Done (run (exprW (unaryP e m)) ⟨σ.r.tail, σ.f⟩) x σ2 := h.congr (fun r => climbE_expr (unaryP e m) (unary_goes e m) r)
  have h2 := h1.bind (G := fun x r => match ParS.want e [41] r with | .error f => .error f | .ok r' => .ok (x, r')) (Done.want (Done.ret x _))
  rw [run_ok (by exact ho)] at h2
  rw [run_ok ho]
  have h3 : innerT σ.r = true := by unfold innerT; rw [hi]; simp
  have h4 : (here σ.r).text = [40] := by unfold isT at hi; simp only [Bool.and_eq_true, decide_eq_true_eq] at hi; exact hi.1
  simp only [unaryP, h3, h4, if_true]
  dsimp only at h2
  cases hx : exprW (unaryP e m) σ.r.tail with
  | error f => rw [hx] at h2; exact h2
  | ok p =>
    obtain ⟨a, r'⟩ := p
    rw [hx] at h2
    dsimp only at h2 ⊢
    cases hw : ParS.want e [41] r' with
    | error f => rw [hw] at h2; exact h2
    | ok r2 => rw [hw] at h2; exact h2
theorem unary_sign {e m : Nat} {s : List UInt8} {op : Int} (hs : (s = [45] ∧ op = 17) ∨ (s = [33] ∧ op = 18)) {σ σ2 : RS} {x : Ex} (ht : takeB s σ = true) (h : Done (run (unaryP e m) ⟨σ.r.tail, σ.f⟩) x σ2) :
    Done (run (unaryP e (m + 1)) σ) (.mk 3 op 0 [] [x] ((here σ.r).at_ : Int)) σ2 := by
  obtain ⟨ho, hi⟩ := takeB_pos ht
  have h1 := h.bind (G := fun y r => .ok (Ex.mk 3 (if (here σ.r).text = [33] then 18 else 17) 0 [] [y] ((here σ.r).at_ : Int), r)) (Done.ret _ _)
  rw [run_ok (by exact ho)] at h1
  rw [run_ok ho]
  have h4 : (here σ.r).text = s := by unfold isT at hi; simp only [Bool.and_eq_true, decide_eq_true_eq] at hi; exact hi.1
  have h3 : innerT σ.r = true := by
    unfold innerT
    rcases hs with ⟨rfl, -⟩ | ⟨rfl, -⟩ <;> rw [hi] <;> simp
  have h5 : ¬ (here σ.r).text = [40] := by rw [h4]; rcases hs with ⟨rfl, -⟩ | ⟨rfl, -⟩ <;> decide
  have h6 : (if (here σ.r).text = [33] then (18 : Int) else 17) = op := by rw [h4]; rcases hs with ⟨rfl, rfl⟩ | ⟨rfl, rfl⟩ <;> rfl
  simp only [unaryP, h3, if_true, if_neg h5]
  rw [h6] at h1 ⊢
  dsimp only at h1
  cases hx : unaryP e m σ.r.tail with
  | error f => rw [hx] at h1; exact h1
  | ok p => rw [hx] at h1; exact h1
end ParS


/- A reader that goes on behind a fault, in memory. -/
namespace Sx
open Go Go.RowKit LexS ParS

/-- what stays as long as a reader goes: 'rb' its block; 'n0': older blocks stay; 'T' its type -/
structure RCtx where
  rb : Nat
  n0 : Nat
  oa : Option Addr
  cap : Nat
  ts : List Tok
  e : Nat
  T : Nat
abbrev rcell (c : RCtx) (σ : RS) : List Value := [.slice c.oa c.ts.length c.cap, .int .i64 ((c.ts.length - σ.r.length : Nat) : Int), .int .i64 (c.e : Int), .int .i64 (σ.f.1 : Int), .int .i64 (σ.f.2 : Int)]
abbrev RAt (c : RCtx) (σ : RS) (w : World) : Prop := w.heap[c.rb]? = some (.cells (rcell c σ).toArray c.T (0, 0))
structure RCok (c : RCtx) (w : World) : Prop where
  row : RowC w (· < c.n0) 4 c.oa c.ts.length (fun j => tkL (c.ts.getD j tok0))
  n0 : c.n0 ≤ c.rb
  len : c.ts.length ≤ 1048576
  el : c.e ≤ 1048576
  le : c.n0 ≤ w.heap.size
  wd : ∀ t ∈ c.ts, t.word ≤ 9223372036854775807
  sg : ∀ t ∈ c.ts, t.kind = 4 → isSign t.text = true
theorem RCok.kept {c : RCtx} {M : List Nat} {w w' : World} (h : RCok c w) (k : Chg M w w') (hM : ∀ b ∈ M, c.n0 ≤ b) : RCok c w' :=
  ⟨h.row.kept (.of_chg k fun b hb hm => absurd (hM b hm) (Nat.not_le.2 hb)), h.n0, h.len, h.el, Nat.le_trans h.le k.size, h.wd, h.sg⟩
theorem RCok.k1 {c : RCtx} {w w' : World} (h : RCok c w) (k : Chg [c.rb] w w') : RCok c w' := h.kept k (by simpa using h.n0)
theorem RCok.tok {c : RCtx} {w : World} (h : RCok c w) {r : List Tok} (hs : r <:+ c.ts) (hr : r ≠ []) : ∃ b off, c.oa = some ⟨b, off, none⟩ ∧ ∀ i v, (tkL (here r))[i]? = some v → w.cell? ⟨b, off + (c.ts.length - r.length) * 4 + i, none⟩ = some v := by
  obtain ⟨h1, h2⟩ := suf_get hs hr
  rcases h.row with h0 | ⟨b, off, e, hb, hl, hc⟩
  · omega
  · refine ⟨b, off, e, fun i v hi => (hc _ h2).2 i v ?_⟩
    dsimp only; rw [h1]; exact hi
theorem hereE_nil {e : Nat} {r : List Tok} (h : r.length = 0) : hereE e r = ⟨0, [], 0, e⟩ := by rw [List.eq_nil_of_length_eq_zero h]; rfl
/-- what a function of a reader hands back -/
def RRes {α : Type} (c : RCtx) (σ : RS) (F : List Tok → PR α) (w : World) (H : α → Value → World → Prop) (v : Value) (w' : World) : Prop :=
  ∃ x σ', Done (run F σ) x σ' ∧ σ'.r <:+ σ.r ∧ RAt c σ' w' ∧ Chg [c.rb] w w' ∧ H x v w'
structure RSt where
  x : Ex
  σ : RS
  k : Nat
  ox : Option Addr
  cx : Nat
  Sx : List Nat
end Sx


namespace Go.Proofs.YtggnfanphcaamaaGreatDoor
open Go.RowKit Sx LexS ParS _root_.Go.Proofs.Tryz
theorem decide_ok (σ : RS) : decide ((σ.f.2 : Int) = 0) = decide σ.ok := by
 rw [Bool.eq_iff_iff]; simp only [decide_eq_true_eq]; unfold RS.ok; omega
theorem rok_any (c : RCtx) (σ : RS) (hr : σ.r <:+ c.ts) (w : World) (hC : RCok c w) (hP : RAt c σ w) : Ret Tryz.prog 16 [.pointer (some ⟨c.rb, 0, none⟩)] w fun v w' => v = .bool (decide σ.ok) ∧ Chg [] w w' := by
 refine ret_of [_] func16 rfl ntmps16 rfl ?_
 obtain ⟨w0, rfl⟩ : ∃ w0, w0 = w := ⟨_, rfl⟩
 have hP' := hP
 dsimp only [RAt, rcell] at hP
 have st := St.of1 [] hP
 have h20 := hC.len
 have hl := suf_len hr
 refine sr ?_
 refine ya ?_
 refine et (vk1 0 (sr ?_))
 refine ym ?_
 refine ynk ?_
 refine yfz 4 underlying47 sizeOf3 ?_
 refine yl st 0 isAgg3 ?_
 refine vy (y_eqi rfl rfl) ?_
 refine ya ?_
 refine et (vk1 2 (vc_ret ?_))
 refine vq_ret1 st (.inl rfl) results16 (.tmp rfl) ?_
 refine ⟨_, rfl, ?_⟩
 exact ⟨congrArg Value.bool (decide_ok σ), st.chg⟩
theorem rhere_any (c : RCtx) (σ : RS) (hr : σ.r <:+ c.ts) (w : World) (hC : RCok c w) (hP : RAt c σ w) : Ret Tryz.prog 50 [.pointer (some ⟨c.rb, 0, none⟩)] w fun v w' => v = .agg (tkL (hereE c.e σ.r)).toArray ∧ Chg [] w w' := by
 obtain ⟨rb, n0, oa, cap, ts, e, TT⟩ := c
 obtain ⟨r, f⟩ := σ
 dsimp only [RAt, rcell] at hr hP ⊢
 refine ret_of [_] func50 rfl ntmps50 rfl ?_
 obtain ⟨w0, rfl⟩ : ∃ w0, w0 = w := ⟨_, rfl⟩
 have st := St.of1 [] hP
 refine sr ?_
 refine vc_e (e_al (l := [_, _, _, _]) st rfl rfl zeroValue82 rfl ?_)
 intro b2 w hb2 st
 refine et (vk2 0 2 (vc_seq (vc_seq ?_)))
 refine vc_draw Tryz.mixed [(0, true), (1, true), (2, true), (3, true), (4, true), (5, true), (6, true), (7, true), (8, true), (9, true)] (fun w => St _ _ _ w) st (by kernel_rfl) (by repeat (first | exact okQ_noPan | exact okQ_body | exact okQ_bodyS | refine okQ_then ?_ | refine okQ_block ?_)) rfl (by kernel_rfl) ?_
 intro w cd; replace st := st.call0 cd; clear cd
 have hS := st
 refine pm hS ?_
 refine pnk hS ?_
 refine pfz hS 1 underlying47 sizeOf3 ?_
 refine pld hS 1 isAgg3 ?_
 refine pm hS ?_
 refine pnk hS ?_
 refine pf0 hS underlying47 sizeOf45 ?_
 refine pld hS 1 isAgg45 ?_
 refine vp_take rfl rfl rfl hS (fun w st => y_lensl rfl underlying45) ?_
 refine vp_take rfl rfl rfl hS (fun w st => y_lss rfl rfl) ?_
 refine vp_end (vq_then (vk3 0 2 12 ?_))
 refine vif ?_ ?_
 ·intro hc12
  try simp only [dn] at hc12
  have hne : r ≠ [] := by rintro rfl; simp at hc12
  obtain ⟨tb, to, hoa, hc⟩ := hC.tok hr hne
  have hlt := (suf_get hr hne).2
  dsimp only at hoa hc hlt
  subst hoa
  refine vc_seq ?_
  refine vc_draw Tryz.mixed [(0, true), (1, true), (2, true), (3, true), (4, true), (5, true), (6, true), (7, true), (8, true), (9, true), (10, false)] (fun w => St _ _ [.blk rb (.cells [.slice (some ⟨tb, to, none⟩) ts.length cap, .int .i64 ((ts.length - r.length : Nat) : Int), .int .i64 (e : Int), .int .i64 (f.1 : Int), .int .i64 (f.2 : Int)].toArray TT (0, 0))] w) st.dr (by kernel_rfl) (by repeat (first | exact okQ_noPan | exact okQ_body | exact okQ_bodyS | refine okQ_then ?_ | refine okQ_block ?_)) rfl (by kernel_rfl) ?_
  intro w cd; replace st := st.call0 cd; clear cd
  have hS : St _ _ [.blk rb (.cells [.slice (some ⟨tb, to, none⟩) ts.length cap, .int .i64 ((ts.length - r.length : Nat) : Int), .int .i64 (e : Int), .int .i64 (f.1 : Int), .int .i64 (f.2 : Int)].toArray TT (0, 0))] w := st.dr
  refine pm hS ?_
  refine pnk hS ?_
  refine pf0 hS underlying47 sizeOf45 ?_
  refine pld hS 0 isAgg45 ?_
  refine pm hS ?_
  refine pnk hS ?_
  refine pfz hS 1 underlying47 sizeOf3 ?_
  refine pld hS 0 isAgg3 ?_
  refine vp_take rfl rfl rfl hS (fun w st => y_ia (k := (ts.length - r.length)) rfl rfl underlying45 sizeOf82 rfl (hlt)) ?_
  refine vp_take rfl rfl rfl hS (fun w st => y_ldca (tkL (here r)) rfl isAgg82 sizeOf82 rfl (fun i v hi => st.chg.cell (hc i v hi) (by simp))) ?_
  refine vp_do rfl (e_sts (vs := [_, _, _, _]) st 0 rfl rfl rfl rfl rfl sizeOf82 rfl rfl (by (right; assumption)) ?_)
  intro w st; dsimp only [setNth, wr] at st
  refine vp_next st.dr ?_; intro hS
  refine vp_end (vq_then (vk1 2 (vc_ret (vq_then_ret ?_))))
  refine vq_ret1 st (.inl rfl) results50 (by exact .cell 0 rfl rfl isAgg82 sizeOf82) ?_
  refine ⟨_, rfl, ?_⟩
  rw [hereE_cons hne]; exact ⟨rfl, st.chg⟩
 intro hc12
 try simp only [dn] at hc12
 have h0 : r.length = 0 := by have := suf_len hr; omega
 refine kt (vk2 0 2 (sr ?_))
 refine ym ?_
 refine ynk ?_
 refine yfz 2 underlying47 sizeOf3 ?_
 refine yl st 1 isAgg3 ?_
 refine vy (y_bld (.agg #[_, _, _, _]) [(3, _)] rfl (fun w => by simp [Instr.build, go_sem] <;> repeat' constructor)) ?_
 refine vc_e (e_sts (vs := [_, _, _, _]) st 0 rfl rfl rfl rfl rfl sizeOf82 rfl rfl (by (right; assumption)) ?_)
 intro w st; dsimp only [setNth, wr] at st
 refine et (vk1 2 (vc_ret ?_))
 refine vq_ret1 st (.inl rfl) results50 (by exact .cell 0 rfl rfl isAgg82 sizeOf82) ?_
 refine ⟨_, rfl, ?_⟩
 rw [hereE_nil h0]; exact ⟨rfl, st.chg⟩
theorem rfail_any (c : RCtx) (k : Nat) (σ : RS) (hr : σ.r <:+ c.ts) (w : World) (hC : RCok c w) (hP : RAt c σ w) : Ret Tryz.prog 51 [.pointer (some ⟨c.rb, 0, none⟩), .int .i64 (k : Int)] w fun v w' => v = .tuple #[] ∧ RAt c (failR c.e k σ) w' ∧ Chg [c.rb] w w' := by
 refine ret_of [_, _] func51 rfl ntmps51 rfl ?_
 obtain ⟨w0, rfl⟩ : ∃ w0, w0 = w := ⟨_, rfl⟩
 have hP' := hP
 dsimp only [RAt, rcell] at hP
 have st := St.of1 [c.rb] hP
 have h20 := hC.len
 have hl := suf_len hr
 refine sr ?_
 refine ym ?_
 refine vc_e (e_call [_] rfl rfl call16 rfl (rok_any c σ hr _ (hC.k1 st.chg) (by exact st.res (i := 0) rfl)) ?_)
 rintro _ w ⟨rfl, cw⟩
 replace st := st.call0 cw
 refine et (vk3 0 1 5 ?_)
 refine vif ?_ ?_
 ·intro hc5
  have ho : σ.ok := by simpa using hc5
  rw [failR_ok ho]
  refine sr ?_
  iterate 2 refine ym ?_
  refine vc_e (e_call [_] rfl rfl call50 rfl (rhere_any c σ hr _ (hC.k1 st.chg) (by exact st.res (i := 0) rfl)) ?_)
  rintro _ w ⟨rfl, cw⟩
  replace st := st.call0 cw
  refine vy (y_fld rfl underlying82 rfl rfl isAgg3 rfl) ?_
  refine ynk ?_
  refine yfz 3 underlying47 sizeOf3 ?_
  refine vc_e (e_st st 0 rfl rfl rfl rfl sizeOf3 rfl rfl (by (left; simp)) ?_)
  intro w st
  refine et (vk2 0 1 (vc_region ?_))
  iterate 2 refine ym ?_
  refine ynk ?_
  refine yfz 4 underlying47 sizeOf3 ?_
  refine vc_e (e_st st 0 rfl rfl rfl rfl sizeOf3 rfl rfl (by (left; simp)) ?_)
  intro w st
  refine vc_end ?_
  refine vq_ret0 (.inr rfl) results51 ?_
  refine ⟨_, rfl, ?_⟩
  refine ⟨rfl, ?_, st.chg⟩
  have h := st.res (i := 0) rfl
  rw [hereE_at] at h
  exact h
 intro hc5
 have ho : ¬ σ.ok := by simpa using hc5
 rw [failR_bad ho]
 refine vc_code_skip ?_
 refine vq_ret0 (.inr rfl) results51 ?_
 refine ⟨_, rfl, ?_⟩
 exact ⟨rfl, st.res (i := 0) rfl, st.chg⟩
theorem ris_any (c : RCtx) (s : List UInt8) (σ : RS) (hr : σ.r <:+ c.ts) (w : World) (hC : RCok c w) (hP : RAt c σ w) : Ret Tryz.prog 48 [.pointer (some ⟨c.rb, 0, none⟩), str s] w fun v w' => v = .bool (isT s σ.r) ∧ Chg [] w w' := by
 refine ret_of [_, _] func48 rfl ntmps48 rfl ?_
 have st := St.init w []
 obtain ⟨w0, rfl⟩ : ∃ w0, w0 = w := ⟨_, rfl⟩
 refine sr ?_
 refine ya ?_
 refine et (vk2 0 1 (sr ?_))
 refine ym ?_
 refine vc_e (e_call [_] rfl rfl call50 rfl (rhere_any c σ hr _ hC hP) ?_)
 rintro _ w ⟨rfl, cw⟩
 replace st := st.call0 cw
 refine vc_e (e_al (l := [_, _, _, _]) st rfl rfl zeroValue82 rfl ?_)
 intro b5 w hb5 st
 refine vc_e (e_sts (vs := [_, _, _, _]) st 0 rfl rfl rfl rfl rfl sizeOf82 rfl rfl (by (right; assumption)) ?_)
 intro w st
 refine et (vk2 1 5 (sr ?_))
 refine vy (y_fa0 rfl underlying82 rfl rfl sizeOf80 rfl) ?_
 refine yl st 0 isAgg80 ?_
 refine vy (y_eqi rfl rfl) ?_
 refine vmb ?_ ?_
 intro hg11
 iterate 3 refine vsk ?_
 refine ypt ?_
 refine ym ?_
 refine yfz 1 underlying82 sizeOf9 ?_
 refine yl st 0 isAgg9 ?_
 refine ym ?_
 refine vy (y_eqs rfl rfl) ?_
 refine ypt ?_
 rotate_left
 focus
  intro hg11
  refine vy (y_fa0 rfl underlying82 rfl rfl sizeOf80 rfl) ?_
  refine yl st 0 isAgg80 ?_
  refine vy (y_eqi rfl rfl) ?_
  refine ypf ?_
  refine vmb ?_ ?_
  intro hg16
  refine yfz 1 underlying82 sizeOf9 ?_
  refine yl st 0 isAgg9 ?_
  refine ym ?_
  refine vy (y_eqs rfl rfl) ?_
  refine ypt ?_
  rotate_left
  intro hg16
  iterate 4 refine vsk ?_
  refine ypf ?_
 all_goals
  refine ya ?_
  refine et (vk1 4 (vc_ret ?_))
  refine vq_ret1 st (.inl rfl) results48 (.tmp rfl) ?_
  refine ⟨_, rfl, ?_⟩
  rw [hereE_kind, hereE_text] at *
  have hk2 : ((here σ.r).kind : Int) = 2 ↔ (here σ.r).kind = 2 := by omega
  have hk4 : ((here σ.r).kind : Int) = 4 ↔ (here σ.r).kind = 4 := by omega
  refine ⟨?_, st.chg⟩
  unfold isT
  simp_all
theorem rtake_any (c : RCtx) (s : List UInt8) (σ : RS) (hr : σ.r <:+ c.ts) (w : World) (hC : RCok c w) (hP : RAt c σ w) : Ret Tryz.prog 31 [.pointer (some ⟨c.rb, 0, none⟩), str s] w fun v w' => v = .bool (takeB s σ) ∧ RAt c (takeR s σ) w' ∧ Chg [c.rb] w w' := by
 refine ret_of [_, _] func31 rfl ntmps31 rfl ?_
 obtain ⟨w0, rfl⟩ : ∃ w0, w0 = w := ⟨_, rfl⟩
 have hP' := hP
 dsimp only [RAt, rcell] at hP
 have st := St.of1 [c.rb] hP
 have h20 := hC.len
 have hl := suf_len hr
 refine sr ?_
 refine ya ?_
 refine et (vk2 0 1 (vc_seq (sr ?_)))
 refine ym ?_
 refine vc_e (e_call [_] rfl rfl call16 rfl (rok_any c σ hr _ (hC.k1 st.chg) (by exact st.res (i := 0) rfl)) ?_)
 rintro _ w ⟨rfl, cw⟩
 replace st := st.call0 cw
 refine vmb ?_ ?_
 ·intro hg7
  have ho : σ.ok := by simpa using hg7
  iterate 2 refine ym ?_
  refine vc_e (e_call [_, _] rfl rfl call48 rfl (ris_any c s σ hr _ (hC.k1 st.chg) (by exact st.res (i := 0) rfl)) ?_)
  rintro _ w ⟨rfl, cw⟩
  replace st := st.call0 cw
  refine ypt ?_
  refine et (vk2 0 11 ?_)
  refine vif ?_ ?_
  ·intro hc11
   have hT : takeB s σ = true := by rw [takeB_ok ho]; simpa using hc11
   have ht := tail_lt (isT_ne (takeB_pos hT).2)
   have ht2 : σ.r.tail.length = σ.r.length - 1 := List.length_tail
   refine sr ?_
   refine ym ?_
   refine ynk ?_
   refine yfz 1 underlying47 sizeOf3 ?_
   refine yl st 0 isAgg3 ?_
   refine vy (y_add rfl rfl (by omega : _ = ((c.ts.length - σ.r.tail.length : Nat) : Int)) (by omega) (by omega)) ?_
   refine ynk ?_
   refine yfz 1 underlying47 sizeOf3 ?_
   refine vc_e (e_st st 0 rfl rfl rfl rfl sizeOf3 rfl rfl (by (left; simp)) ?_)
   intro w st
   refine et (vc_keep [] trivial (sr ?_))
   refine ya ?_
   refine et (vk1 4 (vc_ret (vq_then_ret ?_)))
   refine vq_ret1 st (.inl rfl) results31 (.tmp rfl) ?_
   refine ⟨_, rfl, ?_⟩
   rw [hT, takeR_pos hT]
   exact ⟨rfl, st.res (i := 0) rfl, st.chg⟩
  intro hc11
  have hT : takeB s σ = false := by rw [takeB_ok ho]; simpa using hc11
  refine kt (vc_keep [] trivial (sr ?_))
  refine ya ?_
  refine et (vk1 4 (vc_ret ?_))
  refine vq_ret1 st (.inl rfl) results31 (.tmp rfl) ?_
  refine ⟨_, rfl, ?_⟩
  rw [hT, takeR_neg hT]
  exact ⟨rfl, st.res (i := 0) rfl, st.chg⟩
 intro hg7
 have ho : ¬ σ.ok := by simpa using hg7
 have hT : takeB s σ = false := takeB_bad ho
 iterate 3 refine vsk ?_
 refine ypf ?_
 refine et (vk2 0 11 ?_)
 refine vc_iff rfl ?_
 refine kt (vc_keep [] trivial (sr ?_))
 refine ya ?_
 refine et (vk1 4 (vc_ret ?_))
 refine vq_ret1 st (.inl rfl) results31 (.tmp rfl) ?_
 refine ⟨_, rfl, ?_⟩
 rw [hT, takeR_neg hT]
 exact ⟨rfl, st.res (i := 0) rfl, st.chg⟩
theorem rwant_any (c : RCtx) (s : List UInt8) (σ : RS) (hr : σ.r <:+ c.ts) (w : World) (hC : RCok c w) (hP : RAt c σ w) : Ret Tryz.prog 52 [.pointer (some ⟨c.rb, 0, none⟩), str s] w fun v w' => v = .tuple #[] ∧ RAt c (wantR c.e s σ) w' ∧ Chg [c.rb] w w' := by
 refine ret_of [_, _] func52 rfl ntmps52 rfl ?_
 obtain ⟨w0, rfl⟩ : ∃ w0, w0 = w := ⟨_, rfl⟩
 have hP' := hP
 dsimp only [RAt, rcell] at hP
 have st := St.of1 [c.rb] hP
 have h20 := hC.len
 have hl := suf_len hr
 refine sr ?_
 iterate 2 refine ym ?_
 refine vc_e (e_call [_, _] rfl rfl call31 rfl (rtake_any c s σ hr _ (hC.k1 st.chg) (by exact st.res (i := 0) rfl)) ?_)
 rintro _ w ⟨rfl, hP1, cw⟩
 replace st := St.prs (b := c.rb) st 0 rfl cw (.inl (.head _)) hP1
 refine vy (y_not rfl) ?_
 refine et (vk2 0 7 ?_)
 refine vif ?_ ?_
 ·intro hc7
  have hF : takeB s σ = false := by simpa using hc7
  rw [takeR_neg hF] at st
  refine vc_region ?_
  refine ym ?_
  refine vc_e (e_call [_, _] rfl rfl call51 rfl (rfail_any c 2 σ hr _ (hC.k1 st.chg) (by exact st.res (i := 0) rfl)) ?_)
  rintro _ w ⟨rfl, hP1, cw⟩
  replace st := St.prs (b := c.rb) st 0 rfl cw (.inl (.head _)) hP1
  refine vc_end ?_
  refine vq_ret0 (.inr rfl) results52 ?_
  refine ⟨_, rfl, ?_⟩
  refine ⟨rfl, ?_, st.chg⟩
  unfold wantR
  rw [hF]
  exact st.res (i := 0) rfl
 intro hc7
 have hT : takeB s σ = true := by simpa using hc7
 rw [takeR_pos hT] at st
 refine vc_code_skip ?_
 refine vq_ret0 (.inr rfl) results52 ?_
 refine ⟨_, rfl, ?_⟩
 refine ⟨rfl, ?_, st.chg⟩
 unfold wantR
 rw [hT]
 exact st.res (i := 0) rfl
abbrev sgnL : List Value := (List.range 19).map fun k => str (sgn k)
abbrev lvlL : List Value := (List.range 19).map fun k => .int .i64 (lvl k)
theorem tabL_at {f : Nat → Value} (m : Nat) (h : m < 19) : nth ((List.range 19).map f) m = some (f m) := by rw [nth_eq]; simp [h]
theorem cell_nth {w : World} {b off E : Nat} {l : List Value} {v : Value} (h : w.heap[b]? = some (.cells l.toArray E (0, 0))) (hv : nth l off = some v) : w.cell? ⟨b, off, none⟩ = some v := cell_blk h hv

theorem rshow_any (k : Int) (hk : 0 ≤ k) (w : World) : Ret Tryz.prog 103 [.int .u8 k] w fun v w' => v = str (if k < 19 then sgn k.toNat else []) ∧ Chg [] w w' := by
 refine ret_of [_] func103 rfl ntmps103 rfl ?_
 have st := St.init w []
 refine sr ?_
 refine ya ?_
 refine et (vk1 0 (vc_seq (sr ?_)))
 refine ym ?_
 refine vy (y_geq rfl rfl) ?_
 refine et (vk2 0 4 ?_)
 refine vif ?_ ?_
 ·intro hc4
  try simp only [dn] at hc4
  refine sr ?_
  refine ya ?_
  refine et (vk1 2 (vc_ret (vq_then_ret ?_)))
  refine vq_ret1 st (.inl rfl) results103 (.tmp rfl) ?_
  refine ⟨_, rfl, ?_⟩
  refine ⟨?_, st.chg⟩
  rw [if_neg (by omega)]
 intro hc4
 try simp only [dn] at hc4
 obtain ⟨m, rfl⟩ : ∃ m : Nat, k = (m : Int) := ⟨k.toNat, by omega⟩
 refine kt (vk1 0 (sr ?_))
 refine vc_e (e_bsn (l := sgnL) (E := 9) st [(0, _), (1, _), (2, _), (3, _), (4, _), (5, _), (6, _), (7, _), (8, _), (9, _), (10, _), (11, _), (12, _), (13, _), (14, _), (15, _), (16, _), (17, _), (18, _)] rfl rfl rfl (fun w => by simp [Instr.buildSlice, run_underlying underlying96, sizeOf9, zeroValue9, Instr.fill, newRow, newObj, Sem.run, go_sem]; rfl) ?_)
 intro b5 w hb5 st
 refine ym ?_
 refine vy (y_ia0 (k := m) rfl rfl underlying96 sizeOf9 rfl (by omega)) ?_
 refine vy ((by exact y_ldc rfl isAgg9 (cell_nth (st.res (i := 0) rfl) (by rw [Nat.mul_one]; exact tabL_at m (by omega))))) ?_
 refine ya ?_
 refine et (vk1 2 (vc_ret ?_))
 refine vq_ret1 st (.inl rfl) results103 (.tmp rfl) ?_
 refine ⟨_, rfl, ?_⟩
 refine ⟨?_, st.chg⟩
 rw [if_pos (by omega)]; rfl
theorem rlevel_any (k : Int) (hk : 0 ≤ k) (w : World) : Ret Tryz.prog 95 [.int .u8 k] w fun v w' => v = .int .i64 (lvlO k) ∧ Chg [] w w' := by
 refine ret_of [_] func95 rfl ntmps95 rfl ?_
 have st := St.init w []
 refine sr ?_
 refine ya ?_
 refine et (vk1 0 (vc_seq (sr ?_)))
 refine ym ?_
 refine vy (y_geq rfl rfl) ?_
 refine et (vk2 0 4 ?_)
 refine vif ?_ ?_
 ·intro hc4
  try simp only [dn] at hc4
  refine sr ?_
  refine ya ?_
  refine et (vk1 2 (vc_ret (vq_then_ret ?_)))
  refine vq_ret1 st (.inl rfl) results95 (.tmp rfl) ?_
  refine ⟨_, rfl, ?_⟩
  refine ⟨?_, st.chg⟩
  unfold lvlO; rw [if_neg (show ¬ knownOp k = true by simp [knownOp]; omega)]
 intro hc4
 try simp only [dn] at hc4
 obtain ⟨m, rfl⟩ : ∃ m : Nat, k = (m : Int) := ⟨k.toNat, by omega⟩
 refine kt (vk1 0 (sr ?_))
 refine vc_e (e_bsn (l := lvlL) (E := 3) st [(0, _), (1, _), (2, _), (3, _), (4, _), (5, _), (6, _), (7, _), (8, _), (9, _), (10, _), (11, _), (12, _), (13, _), (14, _), (15, _), (16, _), (17, _), (18, _)] rfl rfl rfl (fun w => by simp [Instr.buildSlice, run_underlying underlying126, sizeOf3, zeroValue3, Instr.fill, newRow, newObj, Sem.run, go_sem]; rfl) ?_)
 intro b5 w hb5 st
 refine ym ?_
 refine vy (y_ia0 (k := m) rfl rfl underlying126 sizeOf3 rfl (by omega)) ?_
 refine vy ((by exact y_ldc rfl isAgg3 (cell_nth (st.res (i := 0) rfl) (by rw [Nat.mul_one]; exact tabL_at m (by omega))))) ?_
 refine ya ?_
 refine et (vk1 2 (vc_ret ?_))
 refine vq_ret1 st (.inl rfl) results95 (.tmp rfl) ?_
 refine ⟨_, rfl, ?_⟩
 refine ⟨?_, st.chg⟩
 unfold lvlO
 by_cases h0 : m = 0
 ·subst h0; rfl
 ·rw [if_pos (show knownOp (m : Int) = true by simp [knownOp]; omega)]; rfl
theorem rfind_any (s : List UInt8) (w : World) : Ret Tryz.prog 94 [str s] w fun v w' => v = .tuple [.int .u8 (((findO s).getD 0 : Nat) : Int), .bool (findO s).isSome].toArray ∧ Chg [] w w' := by
 refine ret_of [_] func94 rfl ntmps94 rfl ?_
 have st := St.init w []
 obtain ⟨w0, rfl⟩ : ∃ w0, w0 = w := ⟨_, rfl⟩
 refine sr ?_
 iterate 2 refine ya ?_
 refine et (vk1 0 (vc_seq (sr ?_)))
 refine ya ?_
 refine et (vk2 0 4 (vc_block ?_))
 refine vc_loop (w0 := w0) (M := []) (fun (j : Nat) => [(0, str s), (4, .int .u8 (j : Int))]) (fun _ => []) (fun j w' => 1 ≤ j ∧ j ≤ 17 ∧ noOp s j) (fun j => 17 - j) 1 ⟨rfl, rfl, trivial⟩ st ⟨by omega, by omega, by intro k hk; obtain rfl : k = 0 := (by omega); simp [twoOp]⟩ ?_
 clear st
 rintro j w ⟨hj1, hj, hno⟩ st
 refine vc_seq (sr ?_)
 refine ym ?_
 refine vy (y_leq rfl rfl) ?_
 refine et (vk3 0 4 6 ?_)
 refine vif ?_ ?_
 ·intro hc6
  try simp only [dn] at hc6
  have hj19 : (j : Int) < 19 := by omega
  have htwo : twoOp (j : Int) = true := by unfold twoOp; simp; omega
  refine kt (vk2 0 4 (vc_seq (vc_block (sr ?_))))
  refine ym ?_
  refine vc_e (e_call [_] rfl rfl call103 rfl (rshow_any _ (by omega) _) ?_)
  rintro _ w ⟨rfl, cw⟩
  replace st := st.call0 cw
  refine ym ?_
  refine vy (y_eqs rfl rfl) ?_
  refine et (vk3 0 4 12 ?_)
  refine vif ?_ ?_
  ·intro hc12
   try simp only [dn] at hc12
   refine sr ?_
   refine ym ?_
   iterate 2 refine ya ?_
   refine et (vk2 2 3 (vc_ret (vq_block_ret (vq_then_ret (vq_then_ret (vq_block_ret (vq_then_ret ?_)))))))
   refine vq_ret2 st (.inl rfl) results94 (.tmp rfl) (.tmp rfl) ?_
   refine ⟨_, rfl, ?_⟩
   have hs : sgn j = s := by simpa [hj19] using hc12
   have he : findO s = some j := findO_at (by omega) hno htwo hs
   rw [he]
   exact ⟨rfl, st.chg⟩
  intro hc12
  try simp only [dn] at hc12
  refine vc_code_skip (vq_block (vq_then (vk2 0 4 (vc_region ?_))))
  refine ym ?_
  refine vy (y_addk rfl rfl (by rw [wrap_u8]; omega : _ = ((j + 1 : Nat) : Int))) ?_
  refine ya ?_
  refine vc_end ?_
  refine vq_again (j + 1)  ⟨rfl, rfl, trivial⟩ st ?_ ?_
  ·exact ⟨by omega, by omega, noOp_step hno (by simp; intro _; simpa [hj19] using hc12)⟩
  omega
 intro hc6
 try simp only [dn] at hc6
 refine vc_exit (vq_then_exit (vq_then_exit (vq_block_exit (vq_then (vc_keep [] trivial (sr ?_))))))
 iterate 2 refine ya ?_
 refine et (vk2 2 3 (vc_ret ?_))
 refine vq_ret2 st (.inl rfl) results94 (.tmp rfl) (.tmp rfl) ?_
 refine ⟨_, rfl, ?_⟩
 obtain rfl : j = 17 := by omega
 have hno2 : noOp s 19 := noOp_step (noOp_step hno (by simp [twoOp])) (by simp [twoOp])
 rw [findO_no hno2]
 exact ⟨rfl, st.chg⟩
end Go.Proofs.YtggnfanphcaamaaGreatDoor


namespace Go.Proofs.YtggnfanphcaamaaGreatDoor
open Go.RowKit Sx LexS ParS _root_.Go.Proofs.Tryz

theorem phere_any (c : PCtx) (r : List Tok) (hr : r <:+ c.ts) (w : World) (hC : PCok c w) (hP : PAt c r w) : Ret Tryz.prog 42 [.pointer (some ⟨c.pb, 0, none⟩)] w fun v w' => v = .agg (tkL (here r)).toArray ∧ Chg [] w w' := by
 obtain ⟨pb, n0, oa, cap, ts, e, TT, R, g⟩ := c
 dsimp only [PAt, pcell] at hr hP ⊢
 refine ret_of [_] func42 rfl ntmps42 rfl ?_
 obtain ⟨w0, rfl⟩ : ∃ w0, w0 = w := ⟨_, rfl⟩
 have st := St.of1 [] hP
 refine sr ?_
 refine vc_e (e_al (l := [_, _, _, _]) st rfl rfl zeroValue82 rfl ?_)
 intro b2 w hb2 st
 refine et (vk2 0 2 (vc_seq (vc_seq ?_)))
 refine vc_draw Tryz.mixed [(0, true), (1, true), (2, true), (3, true), (4, true), (5, true), (6, true), (7, true), (8, true), (9, true)] (fun w => St _ _ _ w) st (by kernel_rfl) (by repeat (first | exact okQ_noPan | exact okQ_body | exact okQ_bodyS | refine okQ_then ?_ | refine okQ_block ?_)) rfl (by kernel_rfl) ?_
 intro w cd; replace st := st.call0 cd; clear cd
 have hS := st
 refine pm hS ?_
 refine pnk hS ?_
 refine pfz hS 1 underlying68 sizeOf3 ?_
 refine pld hS 1 isAgg3 ?_
 refine pm hS ?_
 refine pnk hS ?_
 refine pf0 hS underlying68 sizeOf45 ?_
 refine pld hS 1 isAgg45 ?_
 refine vp_take rfl rfl rfl hS (fun w st => y_lensl rfl underlying45) ?_
 refine vp_take rfl rfl rfl hS (fun w st => y_lss rfl rfl) ?_
 refine vp_end (vq_then (vk3 0 2 12 ?_))
 refine vif ?_ ?_
 ·intro hc12
  try simp only [dn] at hc12
  have hne : r ≠ [] := by rintro rfl; simp at hc12
  obtain ⟨tb, to, hoa, hc⟩ := hC.tok hr hne
  have hlt := (suf_get hr hne).2
  dsimp only at hoa hc hlt
  subst hoa
  refine vc_seq ?_
  refine vc_draw Tryz.mixed [(0, true), (1, true), (2, true), (3, true), (4, true), (5, true), (6, true), (7, true), (8, true), (9, true), (10, false)] (fun w => St _ _ [.blk pb (.cells [.slice (some ⟨tb, to, none⟩) ts.length cap, .int .i64 ((ts.length - r.length : Nat) : Int), .int .i64 (e : Int)].toArray TT (0, 0))] w) st.dr (by kernel_rfl) (by repeat (first | exact okQ_noPan | exact okQ_body | exact okQ_bodyS | refine okQ_then ?_ | refine okQ_block ?_)) rfl (by kernel_rfl) ?_
  intro w cd; replace st := st.call0 cd; clear cd
  have hS : St _ _ [.blk pb (.cells [.slice (some ⟨tb, to, none⟩) ts.length cap, .int .i64 ((ts.length - r.length : Nat) : Int), .int .i64 (e : Int)].toArray TT (0, 0))] w := st.dr
  refine pm hS ?_
  refine pnk hS ?_
  refine pf0 hS underlying68 sizeOf45 ?_
  refine pld hS 0 isAgg45 ?_
  refine pm hS ?_
  refine pnk hS ?_
  refine pfz hS 1 underlying68 sizeOf3 ?_
  refine pld hS 0 isAgg3 ?_
  refine vp_take rfl rfl rfl hS (fun w st => y_ia (k := (ts.length - r.length)) rfl rfl underlying45 sizeOf82 rfl (hlt)) ?_
  refine vp_take rfl rfl rfl hS (fun w st => y_ldca (tkL (here r)) rfl isAgg82 sizeOf82 rfl (fun i v hi => st.chg.cell (hc i v hi) (by simp))) ?_
  refine vp_do rfl (e_sts (vs := [_, _, _, _]) st 0 rfl rfl rfl rfl rfl sizeOf82 rfl rfl (by (right; assumption)) ?_)
  intro w st; dsimp only [setNth, wr] at st
  refine vp_next st.dr ?_; intro hS
  refine vp_end (vq_then (vk1 2 (vc_ret (vq_then_ret ?_))))
  refine vq_ret1 st (.inl rfl) results42 (by exact .cell 0 rfl rfl isAgg82 sizeOf82) ?_
  refine ⟨_, rfl, ?_⟩
  exact ⟨rfl, st.chg⟩
 intro hc12
 try simp only [dn] at hc12
 have h0 : r.length = 0 := by have := suf_len hr; omega
 refine kt (vk1 2 (sr ?_))
 refine vy (y_bld (.agg #[_, _, _, _]) [] rfl (fun w => by simp [Instr.build, go_sem] <;> repeat' constructor)) ?_
 refine vc_e (e_sts (vs := [_, _, _, _]) st 0 rfl rfl rfl rfl rfl sizeOf82 rfl rfl (by (right; assumption)) ?_)
 intro w st; dsimp only [setNth, wr] at st
 refine et (vk1 2 (vc_ret ?_))
 refine vq_ret1 st (.inl rfl) results42 (by exact .cell 0 rfl rfl isAgg82 sizeOf82) ?_
 refine ⟨_, rfl, ?_⟩
 rw [here_nil h0]; exact ⟨rfl, st.chg⟩
theorem pat_any (c : PCtx) (r : List Tok) (hr : r <:+ c.ts) (w : World) (hC : PCok c w) (hP : PAt c r w) : Ret Tryz.prog 46 [.pointer (some ⟨c.pb, 0, none⟩)] w fun v w' => v = .int .i64 (atT c.e r : Int) ∧ Chg [] w w' := by
 obtain ⟨pb, n0, oa, cap, ts, e, TT, R, g⟩ := c
 dsimp only [PAt, pcell] at hr hP ⊢
 refine ret_of [_] func46 rfl ntmps46 rfl ?_
 obtain ⟨w0, rfl⟩ : ∃ w0, w0 = w := ⟨_, rfl⟩
 have st := St.of1 [] hP
 refine sr ?_
 refine ya ?_
 refine et (vk1 0 (vc_seq (vc_seq ?_)))
 refine vc_draw Tryz.mixed [(0, true), (1, true), (2, true), (3, true), (4, true), (5, true), (6, true), (7, true), (8, true), (9, true)] (fun w => St _ _ _ w) st (by kernel_rfl) (by repeat (first | exact okQ_noPan | exact okQ_body | exact okQ_bodyS | refine okQ_then ?_ | refine okQ_block ?_)) rfl (by kernel_rfl) ?_
 intro w cd; replace st := st.call0 cd; clear cd
 have hS := st
 refine pm hS ?_
 refine pnk hS ?_
 refine pfz hS 1 underlying68 sizeOf3 ?_
 refine pld hS 0 isAgg3 ?_
 refine pm hS ?_
 refine pnk hS ?_
 refine pf0 hS underlying68 sizeOf45 ?_
 refine pld hS 0 isAgg45 ?_
 refine vp_take rfl rfl rfl hS (fun w st => y_lensl rfl underlying45) ?_
 refine vp_take rfl rfl rfl hS (fun w st => y_lss rfl rfl) ?_
 refine vp_end (vq_then (vk2 0 12 ?_))
 refine vif ?_ ?_
 ·intro hc12
  try simp only [dn] at hc12
  have hne : r ≠ [] := by rintro rfl; simp at hc12
  obtain ⟨tb, to, hoa, hc⟩ := hC.tok hr hne
  have hlt := (suf_get hr hne).2
  dsimp only at hoa hc hlt
  subst hoa
  refine vc_seq ?_
  refine vc_draw Tryz.mixed [(0, true), (1, true), (2, true), (3, true), (4, true), (5, true), (6, true), (7, true), (8, true), (9, true), (10, true), (11, true)] (fun w => St _ _ _ w) st (by kernel_rfl) (by repeat (first | exact okQ_noPan | exact okQ_body | exact okQ_bodyS | refine okQ_then ?_ | refine okQ_block ?_)) rfl (by kernel_rfl) ?_
  intro w cd; replace st := st.call0 cd; clear cd
  have hS := st
  refine pm hS ?_
  refine pnk hS ?_
  refine pf0 hS underlying68 sizeOf45 ?_
  refine pld hS 0 isAgg45 ?_
  refine pm hS ?_
  refine pnk hS ?_
  refine pfz hS 1 underlying68 sizeOf3 ?_
  refine pld hS 0 isAgg3 ?_
  refine vp_take rfl rfl rfl hS (fun w st => y_ia (k := (ts.length - r.length)) rfl rfl underlying45 sizeOf82 rfl (hlt)) ?_
  refine vp_take rfl rfl rfl hS (fun w st => y_fa (k := 3) rfl underlying82 rfl rfl sizeOf3 rfl) ?_
  refine vp_take rfl rfl rfl hS (fun w st => y_ldc rfl isAgg3 (st.chg.cell (hc 3 _ rfl) (by simp))) ?_
  refine vp_take rfl rfl rfl hS (fun w st => y_as rfl) ?_
  refine vp_end (vq_then (vk1 2 (vc_ret (vq_then_ret ?_))))
  refine vq_ret1 st (.inl rfl) results46 (.tmp rfl) ?_
  refine ⟨_, rfl, ?_⟩
  rw [atT_cons hne]; exact ⟨rfl, st.chg⟩
 intro hc12
 try simp only [dn] at hc12
 have h0 : r.length = 0 := by have := suf_len hr; omega
 refine kt (vk1 0 (sr ?_))
 refine ym ?_
 refine ynk ?_
 refine yfz 2 underlying68 sizeOf3 ?_
 refine yl st 0 isAgg3 ?_
 refine ya ?_
 refine et (vk1 2 (vc_ret ?_))
 refine vq_ret1 st (.inl rfl) results46 (.tmp rfl) ?_
 refine ⟨_, rfl, ?_⟩
 rw [atT_nil h0]; exact ⟨rfl, st.chg⟩
theorem pis_any (c : PCtx) (s : List UInt8) (r : List Tok) (hr : r <:+ c.ts) (w : World) (hC : PCok c w) (hP : PAt c r w) : Ret Tryz.prog 27 [.pointer (some ⟨c.pb, 0, none⟩), str s] w fun v w' => v = .bool (isT s r) ∧ Chg [] w w' := by
 refine ret_of [_, _] func27 rfl ntmps27 rfl ?_
 have st := St.init w []
 obtain ⟨w0, rfl⟩ : ∃ w0, w0 = w := ⟨_, rfl⟩
 refine sr ?_
 refine ya ?_
 refine et (vk2 0 1 (sr ?_))
 refine ym ?_
 refine vc_e (e_call [_] rfl rfl call42 rfl (phere_any c r hr _ hC hP) ?_)
 rintro _ w ⟨rfl, cw⟩
 replace st := st.call0 cw
 refine vc_e (e_al (l := [_, _, _, _]) st rfl rfl zeroValue82 rfl ?_)
 intro b5 w hb5 st
 refine vc_e (e_sts (vs := [_, _, _, _]) st 0 rfl rfl rfl rfl rfl sizeOf82 rfl rfl (by (right; assumption)) ?_)
 intro w st
 refine et (vk2 1 5 (sr ?_))
 refine yfz 1 underlying82 sizeOf9 ?_
 refine yl st 0 isAgg9 ?_
 refine ym ?_
 refine vy (y_eqs rfl rfl) ?_
 refine vmb ?_ ?_
 focus
  intro hg12
  refine vy (y_fa0 rfl underlying82 rfl rfl sizeOf80 rfl) ?_
  refine yl st 0 isAgg80 ?_
  refine vy (y_eqi rfl rfl) ?_
  refine vmb ?_ ?_
  intro hg16
  iterate 3 refine vsk ?_
  refine ypt ?_
  rotate_left
  intro hg16
  refine vy (y_fa0 rfl underlying82 rfl rfl sizeOf80 rfl) ?_
  refine yl st 0 isAgg80 ?_
  refine vy (y_eqi rfl rfl) ?_
  refine ypf ?_
  all_goals
   refine ypt ?_
 rotate_left 2
 intro hg12
 iterate 8 refine vsk ?_
 refine ypf ?_
 all_goals
  refine ya ?_
  refine et (vk1 4 (vc_ret ?_))
  refine vq_ret1 st (.inl rfl) results27 (.tmp rfl) ?_
  refine ⟨_, rfl, ?_⟩
  have hk2 : ((here r).kind : Int) = 2 ↔ (here r).kind = 2 := by omega
  have hk4 : ((here r).kind : Int) = 4 ↔ (here r).kind = 4 := by omega
  refine ⟨?_, st.chg⟩
  unfold isT
  simp_all
theorem ptake_any (c : PCtx) (s : List UInt8) (r : List Tok) (hr : r <:+ c.ts) (w : World) (hC : PCok c w) (hP : PAt c r w) : Ret Tryz.prog 23 [.pointer (some ⟨c.pb, 0, none⟩), str s] w fun v w' => v = .bool (isT s r) ∧ PAt c (if isT s r = true then r.tail else r) w' ∧ Chg [c.pb] w w' := by
 refine ret_of [_, _] func23 rfl ntmps23 rfl ?_
 obtain ⟨w0, rfl⟩ : ∃ w0, w0 = w := ⟨_, rfl⟩
 have hP' := hP
 dsimp only [PAt, pcell] at hP
 have st := St.of1 [c.pb] hP
 have h20 := hC.len
 have hl := suf_len hr
 refine sr ?_
 refine ya ?_
 refine et (vk2 0 1 (vc_seq (sr ?_)))
 iterate 2 refine ym ?_
 refine vc_e (e_call [_, _] rfl rfl call27 rfl (pis_any c s r hr _ hC hP') ?_)
 rintro _ w ⟨rfl, cw⟩
 replace st := st.call0 cw
 refine vy (y_not rfl) ?_
 refine et (vk2 0 8 ?_)
 refine vif ?_ ?_
 ·intro hc8
  have hF : isT s r = false := by simpa using hc8
  refine sr ?_
  refine ya ?_
  refine et (vk1 4 (vc_ret (vq_then_ret ?_)))
  refine vq_ret1 st (.inl rfl) results23 (.tmp rfl) ?_
  refine ⟨_, rfl, ?_⟩
  rw [hF]
  exact ⟨rfl, st.res (i := 0) rfl, st.chg⟩
 intro hc8
 have hT : isT s r = true := by simpa using hc8
 have ht := tail_lt (isT_ne hT)
 have ht2 : r.tail.length = r.length - 1 := List.length_tail
 refine kt (vk1 0 (sr ?_))
 refine ym ?_
 refine ynk ?_
 refine yfz 1 underlying68 sizeOf3 ?_
 refine yl st 0 isAgg3 ?_
 refine vy (y_add rfl rfl (by omega : _ = ((c.ts.length - r.tail.length : Nat) : Int)) (by omega) (by omega)) ?_
 refine ynk ?_
 refine yfz 1 underlying68 sizeOf3 ?_
 refine vc_e (e_st st 0 rfl rfl rfl rfl sizeOf3 rfl rfl (by (left; simp)) ?_)
 intro w st
 refine et (vc_keep [] trivial (sr ?_))
 refine ya ?_
 refine et (vk1 4 (vc_ret ?_))
 refine vq_ret1 st (.inl rfl) results23 (.tmp rfl) ?_
 refine ⟨_, rfl, ?_⟩
 rw [hT]
 exact ⟨rfl, st.res (i := 0) rfl, st.chg⟩
theorem pnext_any (c : PCtx) (r : List Tok) (hr : r <:+ c.ts) (hne : r ≠ []) (w : World) (hC : PCok c w) (hP : PAt c r w) : Ret Tryz.prog 43 [.pointer (some ⟨c.pb, 0, none⟩)] w fun v w' => v = .agg (tkL (here r)).toArray ∧ PAt c r.tail w' ∧ Chg [c.pb] w w' := by
 refine ret_of [_] func43 rfl ntmps43 rfl ?_
 obtain ⟨w0, rfl⟩ : ∃ w0, w0 = w := ⟨_, rfl⟩
 have hP' := hP
 dsimp only [PAt, pcell] at hP
 have st := St.of1 [c.pb] hP
 have h20 := hC.len
 have hl := suf_len hr
 have ht := tail_lt hne
 have ht2 : r.tail.length = r.length - 1 := List.length_tail
 replace st := st.call0 (Chg.refl _ _)
 have stP := hP'
 refine sr ?_
 refine vc_e (e_al (l := [_, _, _, _]) st rfl rfl zeroValue82 rfl ?_)
 intro b2 w hb2 st
 refine et (vk2 0 2 (sr ?_))
 refine ym ?_
 refine vc_e (e_call [_] rfl rfl call42 rfl (phere_any c r hr _ (hC.k1 st.chg) (st.res (i := 1) rfl)) ?_)
 rintro _ w ⟨rfl, cw⟩
 replace st := st.call0 cw
 refine vc_e (e_al (l := [_, _, _, _]) st rfl rfl zeroValue82 rfl ?_)
 intro b3 w hb3 st
 refine vc_e (e_sts (vs := [_, _, _, _]) st 0 rfl rfl rfl rfl rfl sizeOf82 rfl rfl (by (right; assumption)) ?_)
 intro w st
 refine et (vk3 0 2 3 (sr ?_))
 refine ym ?_
 refine ynk ?_
 refine yfz 1 underlying68 sizeOf3 ?_
 refine yl st 2 isAgg3 ?_
 refine vy (y_add rfl rfl (by omega : _ = ((c.ts.length - r.tail.length : Nat) : Int)) (by omega) (by omega)) ?_
 refine ynk ?_
 refine yfz 1 underlying68 sizeOf3 ?_
 refine vc_e (e_st st 2 rfl rfl rfl rfl sizeOf3 rfl rfl (by (left; simp)) ?_)
 intro w st
 refine et (vk2 2 3 (sr ?_))
 refine yla st 0 [_, _, _, _] isAgg82 sizeOf82 ?_
 refine vc_e (e_sts (vs := [_, _, _, _]) st 1 rfl rfl rfl rfl rfl sizeOf82 rfl rfl (by (right; assumption)) ?_)
 intro w st
 refine et (vk1 2 (vc_ret ?_))
 refine vq_ret1 st (.inl rfl) results43 (by exact .cell 1 rfl rfl isAgg82 sizeOf82) ?_
 refine ⟨_, rfl, ?_⟩
 exact ⟨rfl, st.res (i := 2) rfl, st.chg⟩
theorem pfail_any (c : PCtx) (rule : Nat) (r : List Tok) (hr : r <:+ c.ts) (w : World) (hC : PCok c w) (hP : PAt c r w) (hR : c.R = 40) : RetP Tryz.prog 29 [.pointer (some ⟨c.pb, 0, none⟩), .int .i64 (rule : Int)] w (fun _ _ => False) (fun v w' => v = refV c (atT c.e r, rule) ∧ Chg [] w w') := by
 refine retp_of [_, _] func29 rfl ntmps29 rfl ?_
 have st := St.init w []
 obtain ⟨w0, rfl⟩ : ∃ w0, w0 = w := ⟨_, rfl⟩
 refine vc_region ?_
 refine ym ?_
 refine vc_e (e_call [_] rfl rfl call46 rfl (pat_any c r hr _ hC hP) ?_)
 rintro _ w ⟨rfl, cw⟩
 replace st := st.call0 cw
 refine ym ?_
 refine vy (y_bld (.agg #[_, _]) [(0, _), (1, _)] rfl (fun w => by simp [Instr.build, go_sem] <;> repeat' constructor)) ?_
 refine vy (y_bld (.agg #[_, _]) [(0, _)] rfl (fun w => by simp [Instr.build, go_sem] <;> repeat' constructor)) ?_
 refine vy (y_mki rfl underlying40) ?_
 refine vc_e (e_panicI rfl rfl (fun a ha => And.intro ha (Or.inr ⟨_, rfl, by rw [refV, hR], st.chg⟩)))
theorem pwant_any (c : PCtx) (ss : List (List UInt8)) (hss : ss.length ≤ 4) (lb n cap E : Nat) (hn : n = ss.length) (r : List Tok) (hr : r <:+ c.ts) (w : World) (hC : PCok c w) (hP : PAt c r w) (hR : c.R = 40)
    (hL : w.heap[lb]? = some (.cells (ss.map str).toArray E (0, 0))) (hne : lb ≠ c.pb) : RetP Tryz.prog 41 [.pointer (some ⟨c.pb, 0, none⟩), .slice (some ⟨lb, 0, none⟩) n cap] w
  (fun v w' => ∃ r', wantL c.e ss r = .ok r' ∧ r' <:+ r ∧ r'.length + ss.length ≤ r.length ∧ PAt c r' w' ∧ Chg [c.pb] w w') (PErr c (wantL c.e ss r) [c.pb] w) := by
 refine retp_of [_, _] func41 rfl ntmps41 rfl ?_
 obtain ⟨w0, rfl⟩ : ∃ w0, w0 = w := ⟨_, rfl⟩
 subst hn
 have hP' := hP
 dsimp only [PAt, pcell] at hP
 have st := St.of1 [c.pb] hP
 have h20 := hC.len
 have hl := suf_len hr
 refine sr ?_
 refine ym ?_
 refine vy (y_lensl rfl underlying96) ?_
 refine ym ?_
 refine et (vk4 0 6 7 8 (vc_block ?_))
 refine vc_loop (w0 := w0) (M := [c.pb]) (fun (y : Nat × List Tok) => [(0, .pointer (some ⟨c.pb, 0, none⟩)), (6, .slice (some ⟨lb, 0, none⟩) ss.length cap), (7, .int .i64 (ss.length : Int)), (8, .int .i64 (y.1 : Int))]) (fun y => [.blk c.pb (.cells (pcell c y.2).toArray c.T (0, 0))]) (fun y _ => y.1 ≤ ss.length ∧ y.2 <:+ r ∧ y.2.length + y.1 ≤ r.length ∧ wantL c.e ss r = wantL c.e (ss.drop y.1) y.2) (fun y => ss.length - y.1) (0, r) ⟨rfl, rfl, rfl, rfl, trivial⟩ st ⟨by simp, List.suffix_refl _, by simp, by simp⟩ ?_
 clear st
 rintro ⟨j, r1⟩ w ⟨hj, hr1, hl1, hw⟩ st
 dsimp only at hj hr1 hl1 hw st
 refine sr ?_
 refine vy (y_lss rfl rfl) ?_
 refine et (vk5 0 6 7 8 9 (vc_seq ?_))
 refine vif ?_ ?_
 ·intro hc9
  try simp only [dn] at hc9
  have hjl : j < ss.length := by omega
  obtain ⟨s, hs⟩ : ∃ s, ss[j]? = some s := ⟨_, List.getElem?_eq_getElem hjl⟩
  have hcell : w0.cell? ⟨lb, j * 1, none⟩ = some (str s) := cell_blk hL (by rw [nth_eq, Nat.mul_one]; simp [hs])
  have hd : ss.drop j = s :: ss.drop (j + 1) := by rw [List.drop_eq_getElem_cons hjl]; congr 1; rw [List.getElem?_eq_getElem hjl] at hs; exact Option.some.inj hs
  rw [hd] at hw
  have hr2 := hr1.trans hr
  refine kt (vk4 0 6 7 8 (vc_seq (vc_block (sr ?_))))
  refine vy (y_ia0 (k := j) rfl rfl underlying96 sizeOf9 rfl (by omega)) ?_
  refine vy (y_ldc rfl isAgg9 (st.chg.cell hcell (by simpa using hne))) ?_
  refine ya ?_
  refine et (vk5 0 5 6 7 8 (sr ?_))
  iterate 2 refine ym ?_
  refine vc_e (e_call [_, _] rfl rfl call23 rfl (ptake_any c s r1 hr2 _ (hC.k1 st.chg) (st.res (i := 0) rfl)) ?_)
  rintro _ w ⟨rfl, hP1, cw⟩
  replace st := st.prs 0 rfl cw (.inl (.head _)) hP1
  dsimp only [setNth] at st
  refine vy (y_not rfl) ?_
  refine et (vk5 0 6 7 8 15 ?_)
  refine vif ?_ ?_
  ·intro hc15
   try simp only [dn] at hc15
   have hF : isT s r1 = false := by simpa using hc15
   simp only [hF, Bool.false_eq_true, if_false] at st
   refine vc_region ?_
   refine ym ?_
   refine vc_e (e_callp [_, _] rfl rfl call29 rfl (pfail_any c 2 r1 hr2 _ (hC.k1 st.chg) (st.res (i := 0) rfl) hR) (by rintro _ w' ⟨rfl, ch⟩ a ha; exact And.intro ha (Or.inr ⟨_, rfl, (atT c.e r1, 2), by rw [hw]; simp only [wantL, want_neg hF], rfl, st.chg.trans ch.of_nil⟩)) (fun _ _ h => h.elim))
  intro hc15
  try simp only [dn] at hc15
  have hT : isT s r1 = true := by simpa using hc15
  simp only [hT, if_true] at st
  have ht := tail_lt (isT_ne hT)
  refine vc_code_skip (vq_block (vq_then (vk4 0 6 7 8 (vc_region ?_))))
  refine vy (y_add rfl rfl (by omega : _ = ((j + 1 : Nat) : Int)) (by omega) (by omega)) ?_
  refine ym ?_
  refine vc_end ?_
  refine vq_again (j + 1, r1.tail)  ⟨rfl, rfl, rfl, rfl, trivial⟩ st ?_ ?_
  ·exact ⟨by dsimp only; omega, (List.tail_suffix _).trans hr1, by dsimp only; omega, by rw [hw]; simp only [wantL, want_pos hT]⟩
  dsimp only; omega
 intro hc9
 try simp only [dn] at hc9
 refine vc_exit (vq_then_exit (vq_then_exit (vq_block_exit ?_)))
 refine vq_ret0 (.inr rfl) results41 ?_
 refine .inl ⟨_, rfl, ?_⟩
 obtain rfl : j = ss.length := by omega
 rw [List.drop_length] at hw
 exact ⟨r1, hw, hr1, hl1, st.res (i := 0) rfl, st.chg⟩
end Go.Proofs.YtggnfanphcaamaaGreatDoor


namespace Go.Proofs.YtggnfanphcaamaaGreatDoor
open Go.RowKit Sx LexS ParS _root_.Go.Proofs.Tryz
theorem Tryz.info52 : Tryz.prog.info? 52 = some Tryz.t52 := by kernel_rfl

theorem pname_any (c : PCtx) (hR : c.R = 40) (r : List Tok) (hr : r <:+ c.ts) (w : World) (hC : PCok c w) (hP : PAt c r w) : RetP Tryz.prog 44 [.pointer (some ⟨c.pb, 0, none⟩)] w
    (PRes c r (nameP c.e r) [c.pb] w fun t v _ => v = .agg (tkL t).toArray) (PErr c (nameP c.e r) [c.pb] w) := by
  refine retp_of [_] func44 rfl ntmps44 rfl ?_
  obtain ⟨w0, rfl⟩ : ∃ w0, w0 = w := ⟨_, rfl⟩
  have hP' := hP
  dsimp only [PAt, pcell] at hP
  have st := St.of1 [c.pb] hP
  have h20 := hC.len
  have hl := suf_len hr
  refine sr ?_
  refine vc_e (e_al (l := [_, _, _, _]) st rfl rfl zeroValue82 rfl ?_)
  intro b2 w hb2 st
  refine et (vk2 0 2 (vc_seq (sr ?_)))
  refine ym ?_
  refine vc_e (e_call [_] rfl rfl call42 rfl (phere_any c r hr _ (hC.k1 st.chg) (by exact st.res (i := 1) rfl)) ?_)
  rintro _ w ⟨rfl, cw⟩
  replace st := st.call0 cw
  refine vy (y_fld rfl underlying82 rfl rfl isAgg80 rfl) ?_
  refine vy (y_nei rfl rfl) ?_
  refine et (vk3 0 2 6 ?_)
  refine vif ?_ ?_
  ·intro hc6
   try simp only [dn] at hc6
   have hk : ¬ (here r).kind = 1 := by omega
   have hs : nameP c.e r = fail c.e 2 r := by unfold nameP; rw [if_neg hk]
   refine vc_region ?_
   refine ym ?_
   refine vc_e (e_callp [_, _] rfl rfl call29 rfl (pfail_any c 2 r hr _ (hC.k1 st.chg) (by exact st.res (i := 1) rfl) hR) (by rintro _ w' ⟨rfl, ch⟩ a ha; exact And.intro ha (Or.inr ⟨_, rfl, (atT c.e r, 2), by rw [hs]; rfl, rfl, st.chg.trans ch.of_nil⟩)) (fun _ _ h => h.elim))
  intro hc6
  try simp only [dn] at hc6
  have hk : (here r).kind = 1 := by omega
  have hs : nameP c.e r = .ok (here r, r.tail) := by unfold nameP; rw [if_pos hk]
  have hne := kind_ne hk (by decide)
  have hlt := tail_lt hne
  refine kt (vk2 0 2 (sr ?_))
  refine ym ?_
  refine vc_e (e_call [_] rfl rfl call43 rfl (pnext_any c r hr hne _ (hC.k1 st.chg) (by exact st.res (i := 1) rfl)) ?_)
  rintro _ w ⟨rfl, hP1, cw⟩
  replace st := St.prs (b := c.pb) st 1 rfl cw (.inl (.head _)) hP1
  dsimp only [setNth] at st
  refine vc_e (e_sts (vs := [_, _, _, _]) st 0 rfl rfl rfl rfl rfl sizeOf82 rfl rfl (by (right; assumption)) ?_)
  intro w st; dsimp only [setNth, wr] at st
  refine et (vk1 2 (vc_ret ?_))
  refine vq_ret1 st (.inl rfl) results44 (by exact .cell 0 rfl rfl isAgg82 sizeOf82) ?_
  refine .inl ⟨_, rfl, ?_⟩
  exact ⟨_, _, hs, List.tail_suffix _, hlt, (by exact st.res (i := 1) rfl), st.chg, rfl⟩
theorem pdecl_any (c : PCtx) (hR : c.R = 40) (r : List Tok) (hr : r <:+ c.ts) (w : World) (hC : PCok c w) (hP : PAt c r w) : RetP Tryz.prog 26 [.pointer (some ⟨c.pb, 0, none⟩)] w
    (PRes c r (declP c.e r) [c.pb] w fun d v _ => v = .agg (dcL d).toArray) (PErr c (declP c.e r) [c.pb] w) := by
  refine retp_of [_] func26 rfl ntmps26 rfl ?_
  obtain ⟨w0, rfl⟩ : ∃ w0, w0 = w := ⟨_, rfl⟩
  have hP' := hP
  dsimp only [PAt, pcell] at hP
  have st := St.of1 [c.pb] hP
  have h20 := hC.len
  have hl := suf_len hr
  have hs := declP.eq_1 c.e r
  refine sr ?_
  refine vc_e (e_al (l := [_, _, _]) st rfl rfl zeroValue52 rfl ?_)
  intro b2 w hb2 st
  refine et (vk2 0 2 (sr ?_))
  refine ym ?_
  refine vc_e (e_callp [_] rfl rfl call44 rfl (pname_any c hR r hr _ (hC.k1 st.chg) (by exact st.res (i := 1) rfl)) (by rintro _ w' ⟨f, hf, rfl, ch⟩ a ha; exact And.intro ha (Or.inr ⟨_, rfl, f, by rw [hs, hf], rfl, st.chg.trans ch⟩)) ?_)
  rintro _ w ⟨t, r1, hx, hsf, hln, hP1, cw, rfl⟩
  replace st := St.prs (b := c.pb) st 1 rfl cw (.inl (.head _)) hP1
  rw [hx] at hs; dsimp only at hs
  have hr1 := hsf.trans hr
  refine vc_e (e_al (l := [_, _, _, _]) st rfl rfl zeroValue82 rfl ?_)
  intro b3 w hb3 st
  refine vc_e (e_sts (vs := [_, _, _, _]) st 0 rfl rfl rfl rfl rfl sizeOf82 rfl rfl (by (right; assumption)) ?_)
  intro w st
  refine et (vk2 2 3 (sr ?_))
  refine yfz 1 underlying82 sizeOf9 ?_
  refine yl st 0 isAgg9 ?_
  refine yfz 3 underlying82 sizeOf3 ?_
  refine yl st 0 isAgg3 ?_
  refine vy (y_bld (.agg #[_, _, _]) [(0, _), (2, _)] rfl (fun w => by simp [Instr.build, go_sem] <;> repeat' constructor)) ?_
  refine vc_e (e_sts (vs := [_, _, _]) st 1 rfl rfl rfl rfl rfl sizeOf52 rfl rfl (by (right; assumption)) ?_)
  intro w st
  refine et (vk1 2 (vc_ret ?_))
  refine vq_ret1 st (.inl rfl) results26 (by exact .cell 1 rfl rfl isAgg52 sizeOf52) ?_
  refine .inl ⟨_, rfl, ?_⟩
  exact ⟨_, _, hs, hsf, hln, (by exact st.res (i := 2) rfl), st.chg, rfl⟩
theorem pinit_any (c : PCtx) (hR : c.R = 40) (r : List Tok) (hr : r <:+ c.ts) (w : World) (hC : PCok c w) (hP : PAt c r w) : RetP Tryz.prog 25 [.pointer (some ⟨c.pb, 0, none⟩)] w
    (PRes c r (initP c.e r) [c.pb] w fun d v _ => v = .agg (dcL d).toArray) (PErr c (initP c.e r) [c.pb] w) := by
  refine retp_of [_] func25 rfl ntmps25 rfl ?_
  obtain ⟨w0, rfl⟩ : ∃ w0, w0 = w := ⟨_, rfl⟩
  have hP' := hP
  dsimp only [PAt, pcell] at hP
  have st := St.of1 [c.pb] hP
  have h20 := hC.len
  have hl := suf_len hr
  have hs := initP.eq_1 c.e r
  unfold declP at *
  refine sr ?_
  refine vc_e (e_al (l := [_, _, _]) st rfl rfl zeroValue52 rfl ?_)
  intro b2 w hb2 st
  refine et (vk2 0 2 (sr ?_))
  refine ym ?_
  refine vc_e (e_callp [_] rfl rfl call26 rfl (pdecl_any c hR r hr _ (hC.k1 st.chg) (by exact st.res (i := 1) rfl)) (by rintro _ w' ⟨f, hf, rfl, ch⟩ a ha; exact And.intro ha (Or.inr ⟨_, rfl, f, (by rw [hs]; unfold declP at hf; cases hn : nameP c.e r with | error g => rw [hn] at hf; exact hf | ok q => rw [hn] at hf; cases hf), rfl, st.chg.trans ch⟩)) ?_)
  rintro _ w ⟨d, r1, hx, hsf, hln, hP1, cw, rfl⟩
  replace st := St.prs (b := c.pb) st 1 rfl cw (.inl (.head _)) hP1
  dsimp only [setNth] at st
  obtain ⟨t, hn, rfl⟩ : ∃ t, nameP c.e r = .ok (t, r1) ∧ d = ⟨t.text, 0, (t.at_ : Int)⟩ := by
    unfold declP at hx
    cases hn : nameP c.e r with
    | error g => rw [hn] at hx; cases hx
    | ok q => rw [hn] at hx; cases hx; exact ⟨q.1, rfl, rfl⟩
  rw [hn] at hs; dsimp only at hs
  have hr1 := hsf.trans hr
  refine vc_e (e_al (l := [_, _, _]) st rfl rfl zeroValue52 rfl ?_)
  intro b3 w hb3 st
  refine vc_e (e_sts (vs := [_, _, _]) st 0 rfl rfl rfl rfl rfl sizeOf52 rfl rfl (by (right; assumption)) ?_)
  intro w st; dsimp only [setNth, wr] at st
  refine et (vk3 0 2 3 (vc_seq (sr ?_)))
  refine ym ?_
  refine vc_e (e_call [_, _] rfl rfl call23 rfl (ptake_any c [61] r1 hr1 _ (hC.k1 st.chg) (by exact st.res (i := 2) rfl)) ?_)
  rintro _ w ⟨rfl, hP1, cw⟩
  replace st := St.prs (b := c.pb) st 2 rfl cw (.inl (.head _)) hP1
  dsimp only [setNth] at st
  refine vy (y_not rfl) ?_
  refine et (vk4 0 2 3 9 ?_)
  refine vif ?_ ?_
  ·intro hc9
   try simp only [dn] at hc9
   have hF : isT [61] r1 = false := by simpa using hc9
   simp only [hF, Bool.false_eq_true, if_false] at st hs
   refine sr ?_
   refine yla st 0 [_, _, _] isAgg52 sizeOf52 ?_
   refine vc_e (e_sts (vs := [_, _, _]) st 1 rfl rfl rfl rfl rfl sizeOf52 rfl rfl (by (right; assumption)) ?_)
   intro w st; dsimp only [setNth, wr] at st
   refine et (vk1 2 (vc_ret (vq_then_ret ?_)))
   refine vq_ret1 st (.inl rfl) results25 (by exact .cell 1 rfl rfl isAgg52 sizeOf52) ?_
   refine .inl ⟨_, rfl, ?_⟩
   exact ⟨_, _, hs, hsf, hln, (by exact st.res (i := 2) rfl), st.chg, rfl⟩
  intro hc9
  try simp only [dn] at hc9
  have hT : isT [61] r1 = true := by simpa using hc9
  simp only [hT, if_true] at st hs
  have ht := tail_lt (isT_ne hT)
  have hr2 := suf_tail hr1
  refine kt (vk3 0 2 3 (sr ?_))
  refine ym ?_
  refine vc_e (e_call [_, _] rfl rfl call23 rfl (ptake_any c [45] r1.tail hr2 _ (hC.k1 st.chg) (by exact st.res (i := 2) rfl)) ?_)
  rintro _ w ⟨rfl, hP1, cw⟩
  replace st := St.prs (b := c.pb) st 2 rfl cw (.inl (.head _)) hP1
  dsimp only [setNth] at st
  obtain ⟨r3, hr3e⟩ : ∃ r3, r3 = (if isT [45] r1.tail = true then r1.tail.tail else r1.tail) := ⟨_, rfl⟩
  have hsf3 : r3 <:+ r1.tail := by rw [hr3e]; split; exact List.tail_suffix _; exact List.suffix_refl _
  rw [← hr3e] at st hs
  have hr3 := hsf3.trans hr2
  unfold wordP at hs
  refine ya ?_
  refine et (vk4 0 2 3 4 (vc_seq (sr ?_)))
  refine ym ?_
  refine vc_e (e_call [_] rfl rfl call42 rfl (phere_any c r3 hr3 _ (hC.k1 st.chg) (by exact st.res (i := 2) rfl)) ?_)
  rintro _ w ⟨rfl, cw⟩
  replace st := st.call0 cw
  refine vy (y_fld rfl underlying82 rfl rfl isAgg80 rfl) ?_
  refine vy (y_nei rfl rfl) ?_
  refine et (vk5 0 2 3 4 16 ?_)
  refine vif ?_ ?_
  ·intro hc16
   try simp only [dn] at hc16
   have hk : ¬ (here r3).kind = 3 := by omega
   rw [if_neg hk] at hs
   refine vc_region ?_
   refine ym ?_
   refine vc_e (e_callp [_, _] rfl rfl call29 rfl (pfail_any c 2 r3 hr3 _ (hC.k1 st.chg) (by exact st.res (i := 2) rfl) hR) (by rintro _ w' ⟨rfl, ch⟩ a ha; exact And.intro ha (Or.inr ⟨_, rfl, (atT c.e r3, 2), by rw [hs]; rfl, rfl, st.chg.trans ch.of_nil⟩)) (fun _ _ h => h.elim))
  intro hc16
  try simp only [dn] at hc16
  have hk : (here r3).kind = 3 := by omega
  rw [if_pos hk] at hs; dsimp only at hs
  have hne := kind_ne hk (by decide)
  have hlt := tail_lt hne
  have hle3 := hsf3.length_le
  refine kt (vk4 0 2 3 4 (sr ?_))
  refine ym ?_
  refine vc_e (e_call [_] rfl rfl call43 rfl (pnext_any c r3 hr3 hne _ (hC.k1 st.chg) (by exact st.res (i := 2) rfl)) ?_)
  rintro _ w ⟨rfl, hP1, cw⟩
  replace st := St.prs (b := c.pb) st 2 rfl cw (.inl (.head _)) hP1
  dsimp only [setNth] at st
  refine vy (y_fld rfl underlying82 rfl rfl isAgg2 rfl) ?_
  refine yfz 1 underlying52 sizeOf2 ?_
  refine vc_e (e_st st 0 rfl rfl rfl rfl sizeOf2 rfl rfl (by (right; assumption)) ?_)
  intro w st; dsimp only [setNth, wr] at st
  refine et (vk3 2 3 4 (vc_seq (sr ?_)))
  refine ym ?_
  refine et (vk3 2 3 23 ?_)
  refine vif ?_ ?_
  intro hc23
  try simp only [dn] at hc23
  rw [if_pos hc23] at hs
  refine vc_region ?_
  refine yfz 1 underlying52 sizeOf2 ?_
  refine yl st 0 isAgg2 ?_
  refine vy (y_neg rfl (neg_i64 (here_wd hC.wd hr3))) ?_
  refine yfz 1 underlying52 sizeOf2 ?_
  refine vc_e (e_st st 0 rfl rfl rfl rfl sizeOf2 rfl rfl (by (right; assumption)) ?_)
  intro w st; dsimp only [setNth, wr] at st
  refine vc_end ?_
  rotate_left
  intro hc23
  try simp only [dn] at hc23
  rw [if_neg (by rw [hc23]; simp)] at hs
  refine vc_code_skip ?_
  all_goals
    refine vq_then (vk2 2 3 (sr ?_))
    refine yla st 0 [_, _, _] isAgg52 sizeOf52 ?_
    refine vc_e (e_sts (vs := [_, _, _]) st 1 rfl rfl rfl rfl rfl sizeOf52 rfl rfl (by (right; assumption)) ?_)
    intro w st; dsimp only [setNth, wr] at st
    refine et (vk1 2 (vc_ret ?_))
    refine vq_ret1 st (.inl rfl) results25 (by exact .cell 1 rfl rfl isAgg52 sizeOf52) ?_
    refine .inl ⟨_, rfl, ?_⟩
    exact ⟨_, _, hs, (List.tail_suffix _).trans (hsf3.trans ((List.tail_suffix _).trans hsf)), by omega, (by exact st.res (i := 2) rfl), st.chg, rfl⟩
/-- a reader of one thing, as a method's value -/
def Reader (c : PCtx) (fo : FuncId) (F : List Tok → PR Dc) : Prop := ∀ (r : List Tok) (hr : r <:+ c.ts) (w : World) (hC : PCok c w) (hP : PAt c r w), RetP Tryz.prog fo [.pointer (some ⟨c.pb, 0, none⟩)] w
    (PRes c r (F r) [c.pb] w fun d v _ => v = .agg (dcL d).toArray) (PErr c (F r) [c.pb] w)
/-- a list's end, so much having come -/
def contL (e : Nat) (one : List Tok → PR Dc) (n : Nat) (acc : List Dc) (r : List Tok) : PR (List Dc) := if isT [44] r = true then (match listP e one n r.tail with
    | .error f => .error f
    | .ok (l, r') => .ok (acc ++ l, r'))
  else match want e [59] r with
    | .error f => .error f
    | .ok r' => .ok (acc, r')
theorem listP_cont (e : Nat) (one : List Tok → PR Dc) (n : Nat) (ts : List Tok) : listP e one (n + 1) ts = match one ts with
    | .error f => .error f
    | .ok (d, r) => contL e one n [d] r := by
  rw [listP]
  cases one ts with
  | error f => rfl
  | ok q => simp only [contL, List.singleton_append]; rfl
theorem contL_step (e : Nat) (one : List Tok → PR Dc) (n : Nat) (acc : List Dc) (r : List Tok) (h : isT [44] r = true) : contL e one (n + 1) acc r = match one r.tail with
    | .error f => .error f
    | .ok (d, r') => contL e one n (acc ++ [d]) r' := by
  rw [contL, if_pos h, listP_cont]
  cases one r.tail with
  | error f => rfl
  | ok q =>
    by_cases hc : isT [44] q.2 = true
    · simp only [contL, if_pos hc]
      cases listP e one n q.2.tail with
      | error f => rfl
      | ok q2 => simp
    · simp only [contL, if_neg hc]
      cases want e [59] q.2 with
      | error f => rfl
      | ok r2 => simp
theorem contL_end (e : Nat) (one : List Tok → PR Dc) (n : Nat) (acc : List Dc) (r : List Tok) (h : isT [44] r = false) : contL e one n acc r = match want e [59] r with
    | .error f => .error f
    | .ok r' => .ok (acc, r') := by rw [contL, if_neg (by simp [h])]

theorem plist_any (c : PCtx) (hR : c.R = 40) (fo : FuncId) (F : List Tok → PR Dc) (hcf : ∀ (az : Array Value) w, (callFunc fo az).run Tryz.prog w = .ok (.enter fo az) w) (hF : Reader c fo F) (n : Nat) (r : List Tok) (hn : r.length < n) (hr : r <:+ c.ts) (w : World) (hC : PCok c w) (hP : PAt c r w) :
    RetP Tryz.prog 24 [.pointer (some ⟨c.pb, 0, none⟩), .func (.func fo) [.pointer (some ⟨c.pb, 0, none⟩)].toArray #[]] w
    (PRes c r (listP c.e F n r) [c.pb] w fun ds v w' => ∃ oa cap Sq, v = .slice oa ds.length cap ∧ DcR 52 w' oa cap ds Sq ∧ Nw w.heap.size Sq) (PErr c (listP c.e F n r) [c.pb] w) := by
  obtain ⟨n, rfl⟩ : ∃ m, n = m + 1 := ⟨n - 1, by omega⟩
  refine retp_of [_, _] func24 rfl ntmps24 rfl ?_
  obtain ⟨w0, rfl⟩ : ∃ w0, w0 = w := ⟨_, rfl⟩
  have hP' := hP
  dsimp only [PAt, pcell] at hP
  have st := St.of1 [c.pb] hP
  have h20 := hC.len
  have hl := suf_len hr
  have hs := listP_cont c.e F n r
  refine sr ?_
  refine ya ?_
  refine et (vk2 0 1 (sr ?_))
  refine ym ?_
  refine vc_e (e_callvp [] rfl rfl rfl hcf rfl (hF r hr _ (hC.k1 st.chg) (by exact st.res (i := 0) rfl)) (by rintro _ w' ⟨f, hf, rfl, ch⟩ a ha; exact And.intro ha (Or.inr ⟨_, rfl, f, by rw [hs, hf], rfl, st.chg.trans ch⟩)) ?_)
  rintro _ w ⟨d0, r1, hx, hsf, hln, hP1, cw, rfl⟩
  replace st := St.prs (b := c.pb) st 0 rfl cw (.inl (.head _)) hP1
  dsimp only [setNth] at st
  rw [hx] at hs; dsimp only at hs
  have hr1 := hsf.trans hr
  refine vc_e (e_bs1 (l := [_, _, _]) st rfl rfl rfl rfl underlying22 sizeOf52 rfl rfl rfl zeroValue52 ?_)
  intro b8 w hb8 st
  replace st := st.toOwn (len := 1) (size := 3) hb8 rfl (by unfold maxLen; omega)
  refine ya ?_
  refine et (vk3 0 1 5 (vc_seq (vc_block ?_)))
  refine vc_loop (w0 := w0) (M := [c.pb]) (fun (y : Nat × List Dc × List Tok × Option Addr × Nat) => [(0, .pointer (some ⟨c.pb, 0, none⟩)), (1, .func (.func fo) [.pointer (some ⟨c.pb, 0, none⟩)].toArray #[]), (5, .slice y.2.2.2.1 y.2.1.length y.2.2.2.2)]) (fun y => [.own (.slice y.2.2.2.1 y.2.1.length y.2.2.2.2) 52 3 y.2.1.length (y.2.1.flatMap dcL), .blk c.pb (.cells (pcell c y.2.2.1).toArray c.T (0, 0))]) (fun y _ => y.2.2.1 <:+ r ∧ y.2.2.1.length + y.2.1.length ≤ r.length ∧ y.2.2.1.length < y.1 + 1 ∧ listP c.e F (n + 1) r = contL c.e F y.1 y.2.1 y.2.2.1) (fun y => y.2.2.1.length) (n, [d0], r1, _, _) ⟨rfl, rfl, rfl, trivial⟩ (by simpa [dcL] using st) ⟨hsf, by simp; omega, by dsimp only; omega, hs⟩ ?_
  clear st hs
  rintro ⟨m, acc, r2, oq, cq⟩ w ⟨hsf2, hl2, hm2, hs⟩ st
  dsimp only at hsf2 hl2 hm2 hs st
  have hr2 := hsf2.trans hr
  refine vc_seq (sr ?_)
  refine ym ?_
  refine vc_e (e_call [_, _] rfl rfl call23 rfl (ptake_any c [44] r2 hr2 _ (hC.k1 st.chg) (by exact st.res (i := 1) rfl)) ?_)
  rintro _ w ⟨rfl, hP1, cw⟩
  replace st := St.prs (b := c.pb) st 1 rfl cw (.inl (.head _)) hP1
  dsimp only [setNth] at st
  refine et (vk4 0 1 5 10 ?_)
  refine vif ?_ ?_
  ·intro hc10
   try simp only [dn] at hc10
   simp only [hc10, if_true] at st
   have ht := tail_lt (isT_ne hc10)
   have hr3 := suf_tail hr2
   obtain ⟨m, rfl⟩ : ∃ k, m = k + 1 := ⟨m - 1, by omega⟩
   rw [contL_step _ _ _ _ _ hc10] at hs
   refine kt (vk3 0 1 5 (vc_block (vc_region ?_)))
   iterate 2 refine ym ?_
   refine vc_e (e_callvp [] rfl rfl rfl hcf rfl (hF r2.tail hr3 _ (hC.k1 st.chg) (by exact st.res (i := 1) rfl)) (by rintro _ w' ⟨f, hf, rfl, ch⟩ a ha; exact And.intro ha (Or.inr ⟨_, rfl, f, by rw [hs, hf], rfl, st.chg.trans ch⟩)) ?_)
   rintro _ w ⟨d1, r4, hx4, hsf4, hln4, hP1, cw, rfl⟩
   replace st := St.prs (b := c.pb) st 1 rfl cw (.inl (.head _)) hP1
   dsimp only [setNth] at st
   rw [hx4] at hs; dsimp only at hs
   have hr4 := hsf4.trans hr3
   have h40 := hl2
   have h41 := hr.length_le
   refine vc_e (e_bs1 (l := [_, _, _]) st rfl rfl rfl rfl underlying22 sizeOf52 rfl rfl rfl zeroValue52 ?_)
   intro b14 w hb14 st
   refine vc_e (e_app (bytes := 32) st 1 0 rfl rfl rfl rfl rfl rfl underlying22 Tryz.info52 rfl rfl rfl rfl rfl (by simp) rfl rfl (by unfold maxLen; omega) (by omega) ?_)
   intro oaQ capQ w st; dsimp only [setNth] at st
   replace st := st.pick [1, 2] rfl (by decide)
   refine ya ?_
   refine vc_end (vq_block ?_)
   refine vq_again (m, acc ++ [d1], r4, oaQ, capQ)  (by refine ⟨rfl, rfl, ?_, trivial⟩; simp [find, put]) (by simpa [dcL] using st) ?_ ?_
   ·exact ⟨(hsf4.trans (List.tail_suffix _)).trans hsf2, by simp; omega, by dsimp only; omega, hs⟩
   ·dsimp only; omega
  intro hc10
  try simp only [dn] at hc10
  simp only [hc10, Bool.false_eq_true, if_false] at st
  rw [contL_end _ _ _ _ _ hc10] at hs
  refine vc_exit (vq_then_exit (vq_then_exit (vq_block_exit (vq_then (vk2 0 5 (sr ?_))))))
  refine ym ?_
  refine vc_e (e_bs1 (l := [_]) st rfl rfl rfl rfl underlying96 sizeOf9 rfl rfl rfl zeroValue9 ?_)
  intro b17 w hb17 st
  refine vc_e (e_callp [_, _] rfl rfl call41 rfl (pwant_any c [[59]] (by simp) _ _ _ _ rfl r2 hr2 _ (hC.k1 st.chg) (by exact st.res (i := 2) rfl) hR (st.res (i := 0) rfl) (by exact st.bne 0 2 (by decide) rfl rfl)) (by rintro _ w' ⟨f, hf, rfl, ch⟩ a ha; rw [wantL_one] at hf; exact And.intro ha (Or.inr ⟨_, rfl, f, by rw [hs, hf], rfl, st.chg.trans ch⟩)) ?_)
  rintro _ w ⟨r5, hx, hsfr5, hlnr5, hP1, cw⟩
  rw [wantL_one] at hx
  rw [hx] at hs; dsimp only at hs
  replace st := St.prs (b := c.pb) st 2 rfl cw (.inl (.head _)) hP1
  dsimp only [setNth] at st
  have hr5 := hsfr5.trans hr2
  refine et (vk1 5 (sr ?_))
  refine ym ?_
  refine ya ?_
  refine et (vk1 4 (vc_ret ?_))
  refine vq_ret1 st (.inl rfl) results24 (.tmp rfl) ?_
  refine .inl ⟨_, rfl, ?_⟩
  have hown := st.ownNw (i := 1) rfl
  exact ⟨_, _, hs, hsfr5.trans hsf2, by simp at hlnr5; omega, (by exact st.res (i := 2) rfl), st.chg, oq, cq, obk oq, rfl, ⟨hown.1, rfl⟩, hown.2⟩
end Go.Proofs.YtggnfanphcaamaaGreatDoor

