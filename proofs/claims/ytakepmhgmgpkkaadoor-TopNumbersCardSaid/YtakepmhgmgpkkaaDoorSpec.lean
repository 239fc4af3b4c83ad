/- What the lexer computes, in plain words: no program in sight. -/
import Derived.Lib.Bytealg
namespace LexS
set_option linter.unusedVariables false

def isLetter (c : UInt8) : Bool := decide (97 ≤ c.toNat ∧ c.toNat ≤ 122 ∨ 65 ≤ c.toNat ∧ c.toNat ≤ 90 ∨ c.toNat = 95)
def isDigit (c : UInt8) : Bool := decide (48 ≤ c.toNat ∧ c.toNat ≤ 57)
def isBlank (c : UInt8) : Bool := decide (c.toNat = 32 ∨ c.toNat = 9 ∨ c.toNat = 10 ∨ c.toNat = 13)
def isIdent (c : UInt8) : Bool := isLetter c || isDigit c
def wShared : List UInt8 := [115, 104, 97, 114, 101, 100]
def wLock : List UInt8 := [108, 111, 99, 107]
def wThread : List UInt8 := [116, 104, 114, 101, 97, 100]
def wLocal : List UInt8 := [108, 111, 99, 97, 108]
def wIf : List UInt8 := [105, 102]
def wElse : List UInt8 := [101, 108, 115, 101]
def wWhile : List UInt8 := [119, 104, 105, 108, 101]
def wPrint : List UInt8 := [112, 114, 105, 110, 116]
def wSkip : List UInt8 := [115, 107, 105, 112]
def wSwap : List UInt8 := [115, 119, 97, 112]
def isWord (l : List UInt8) : Bool := decide (l = wShared ∨ l = wLock ∨ l = wThread ∨ l = wLocal ∨ l = wIf ∨ l = wElse ∨ l = wWhile ∨ l = wPrint ∨ l = wSkip ∨ l = wSwap)
/-- the signs of two bytes -/
def isSign2 (l : List UInt8) : Bool := decide (l = [61, 61] ∨ l = [33, 61] ∨ l = [60, 61] ∨ l = [62, 61] ∨ l = [60, 60] ∨ l = [62, 62])
def signs1 : List UInt8 := [40, 41, 123, 125, 44, 59, 61, 43, 45, 42, 47, 37, 38, 124, 94, 33, 60, 62]
/-- the signs of one byte -/
def isSign1 (l : List UInt8) : Bool := match l with | [c] => signs1.contains c | _ => false
def isSign (l : List UInt8) : Bool := isSign2 l || isSign1 l
def isName (l : List UInt8) : Bool := match l with
  | [] => false
  | c :: _ => decide (l.length ≤ 32) && !isDigit c && !isWord l && l.all isIdent

/-- how many bytes stand ahead of the first LF (or the end) -/
def toLf : List UInt8 → Nat
  | [] => 0
  | c :: r => if c = 10 then 0 else toLf r + 1

def isRem (l : List UInt8) : Bool := match l with | a :: b :: _ => decide (a = 47 ∧ b = 47) | _ => false

/-- how many bytes of blanks and remarks stand ahead -/
def skipF : Nat → List UInt8 → Nat
  | 0, _ => 0
  | _ + 1, [] => 0
  | k + 1, c :: r => if isBlank c then skipF k r + 1 else if isRem (c :: r) then toLf (c :: r) + skipF k ((c :: r).drop (toLf (c :: r))) else 0
def skip (l : List UInt8) : Nat := skipF (l.length + 1) l

theorem toLf_le (l : List UInt8) : toLf l ≤ l.length := by
  induction l with
  | nil => simp [toLf]
  | cons c r ih => simp only [toLf]; split <;> simp <;> omega

theorem toLf_pos {l : List UInt8} (h : isRem l = true) : 0 < toLf l := by
  match l with
  | [] => simp [isRem] at h
  | [_] => simp [isRem] at h
  | a :: b :: r =>
    simp [isRem] at h
    obtain ⟨rfl, rfl⟩ := h
    simp [toLf]

theorem skipF_fuel : ∀ (k j : Nat) (l : List UInt8), l.length < k → l.length < j → skipF k l = skipF j l
  | 0, j, l, h, _ => by omega
  | k + 1, 0, l, _, h => by omega
  | k + 1, j + 1, [], _, _ => rfl
  | k + 1, j + 1, c :: r, h1, h2 => by
    simp only [List.length_cons] at h1 h2
    simp only [skipF]
    split
    · rw [skipF_fuel k j r (by omega) (by omega)]
    · split
      · rename_i hr
        have hp := toLf_pos hr
        have hl : ((c :: r).drop (toLf (c :: r))).length < r.length + 1 := by simp only [List.length_drop, List.length_cons]; omega
        rw [skipF_fuel k j _ (by omega) (by omega)]
      · rfl

theorem skip_nil : skip [] = 0 := rfl
theorem skip_blank {c : UInt8} {r : List UInt8} (h : isBlank c = true) : skip (c :: r) = skip r + 1 := by
  unfold skip
  simp only [List.length_cons, skipF, h, if_true]
theorem skip_rem {l : List UInt8} (h : isRem l = true) : skip l = toLf l + skip (l.drop (toLf l)) := by
  match l, h with
  | [], h => simp [isRem] at h
  | c :: r, h =>
    have hb : isBlank c = false := by
      match r, h with
      | [], h => simp [isRem] at h
      | b :: r, h =>
        simp [isRem] at h
        obtain ⟨rfl, rfl⟩ := h
        decide
    have hp := toLf_pos h
    unfold skip
    simp only [List.length_cons, skipF, hb, h, if_true]
    simp only [Bool.false_eq_true, if_false]
    rw [skipF_fuel (r.length + 1) (((c :: r).drop (toLf (c :: r))).length + 1)]
    · simp only [List.length_drop, List.length_cons]; omega
    · omega
theorem skip_other {c : UInt8} {r : List UInt8} (h : isBlank c = false) (hr : isRem (c :: r) = false) : skip (c :: r) = 0 := by
  unfold skip
  simp only [List.length_cons, skipF, h, hr, Bool.false_eq_true, if_false]

theorem skip_le (l : List UInt8) : skip l ≤ l.length := by
  have key : ∀ n (l : List UInt8), l.length = n → skip l ≤ l.length := by
    intro n
    induction n using Nat.strongRecOn with
    | _ n ih =>
      intro l hl
      match l with
      | [] => simp [skip_nil]
      | c :: r =>
        cases hb : isBlank c with
        | true =>
          rw [skip_blank hb]
          have := ih r.length (by simp at hl; omega) r rfl
          simp; omega
        | false =>
          cases hr : isRem (c :: r) with
          | true =>
            rw [skip_rem hr]
            have hp := toLf_pos hr
            have hle := toLf_le (c :: r)
            have := ih ((c :: r).drop (toLf (c :: r))).length (by simp only [List.length_drop, List.length_cons] at *; omega) _ rfl
            simp only [List.length_drop] at this
            omega
          | false => rw [skip_other hb hr]; simp
  exact key _ l rfl

theorem indexByte_lf (l : List UInt8) : Go.Lib.indexByte l 10 = -1 ∧ toLf l = l.length ∨ Go.Lib.indexByte l 10 = (toLf l : Int) ∧ 0 ≤ Go.Lib.indexByte l 10 := by
  induction l with
  | nil => left; simp [Go.Lib.indexByte, toLf]
  | cons c r ih =>
    simp only [Go.Lib.indexByte, toLf]
    by_cases hc : c = 10
    · subst hc; right; simp
    · have hc' : (c == 10) = false := by simpa using hc
      simp only [hc', hc, if_false, Bool.false_eq_true]
      rcases ih with ⟨h1, h2⟩ | ⟨h1, h2⟩
      · left; simp [h1, h2]
      · right
        have : ¬ (Go.Lib.indexByte r 10 == -1) = true := by simp; omega
        rw [if_neg this, h1]
        constructor
        · omega
        · omega

theorem contains_ib (l : List UInt8) (c : UInt8) : decide (0 ≤ Go.Lib.indexByte l c) = l.contains c := by
  have h : (0 ≤ Go.Lib.indexByte l c) ↔ c ∈ l := by
    induction l with
    | nil => simp [Go.Lib.indexByte]
    | cons b r ih =>
      have hge := Go.Lib.indexByte_ge r c
      simp only [Go.Lib.indexByte]
      by_cases hb : b = c
      · subst hb; simp
      · have hb' : (b == c) = false := by simpa using hb
        simp only [hb', Bool.false_eq_true, if_false, List.mem_cons, Ne.symm hb, false_or, ← ih]
        split
        · rename_i h; simp at h; omega
        · rename_i h; simp at h; omega
  rw [Bool.eq_iff_iff]; simp [h]

/-! ### tokens -/
structure Tok where
  kind : Nat
  text : List UInt8
  word : Nat
  at_ : Nat
  deriving DecidableEq, Repr

def numVal (l : List UInt8) : Nat := l.foldl (fun n c => 10 * n + (c.toNat - 48)) 0

theorem numVal_snoc (l : List UInt8) (c : UInt8) : numVal (l ++ [c]) = 10 * numVal l + (c.toNat - 48) := by simp [numVal]

inductive TokR where
  | tok (t : Tok)
  | bad (rule at_ : Nat)
  deriving DecidableEq, Repr

/-- the token that begins a text that is not empty; 'i': where -/
def tokAt (r : List UInt8) (i : Nat) : TokR := match r with
  | [] => .bad 1 i
  | c :: _ =>
    if isLetter c then
      let t := r.takeWhile isIdent
      if isWord t then .tok ⟨2, t, 0, i⟩ else if 32 < t.length then .bad 2 (i + 32) else .tok ⟨1, t, 0, i⟩
    else if isDigit c then
      let t := r.takeWhile isDigit
      if (1 < t.length ∧ c = 48) ∨ 9223372036854775807 < numVal t then .bad 3 i
      else match r.drop t.length with
        | d :: _ => if isLetter d then .bad 4 (i + t.length) else .tok ⟨3, t, numVal t, i⟩
        | [] => .tok ⟨3, t, numVal t, i⟩
    else if isSign2 (r.take 2) then .tok ⟨4, r.take 2, 0, i⟩
    else if isSign1 [c] then .tok ⟨4, [c], 0, i⟩
    else .bad 1 i

/-- the tokens ahead of the first fault; the fault -/
def scanF : Nat → List UInt8 → Nat → List Tok × Option (Nat × Nat)
  | 0, _, _ => ([], none)
  | k + 1, r, i =>
    match r.drop (skip r) with
    | [] => ([], none)
    | c :: r' => match tokAt (c :: r') (i + skip r) with
      | .bad rule p => ([], some (rule, p))
      | .tok t => ((t :: (scanF k ((c :: r').drop t.text.length) (i + skip r + t.text.length)).1), (scanF k ((c :: r').drop t.text.length) (i + skip r + t.text.length)).2)
def front (s : List UInt8) : List Tok × Option (Nat × Nat) := scanF (s.length + 1) s 0

theorem tok_len {r : List UInt8} {i : Nat} {t : Tok} (h : tokAt r i = .tok t) : 1 ≤ t.text.length ∧ t.text = r.take t.text.length ∧ t.at_ = i := by
  match r, h with
  | [], h => simp [tokAt] at h
  | c :: r, h =>
    have htw : ∀ p : UInt8 → Bool, (c :: r).takeWhile p = (c :: r).take ((c :: r).takeWhile p).length := fun p => by
      have h := List.takeWhile_append_dropWhile (p := p) (l := c :: r)
      have h2 : (c :: r).take ((c :: r).takeWhile p).length = ((c :: r).takeWhile p ++ (c :: r).dropWhile p).take ((c :: r).takeWhile p).length := by rw [h]
      rw [h2, List.take_left']
      rfl
    have hpos : ∀ p : UInt8 → Bool, p c = true → 1 ≤ ((c :: r).takeWhile p).length := fun p hp => by rw [List.takeWhile_cons, if_pos hp]; simp
    have h2 : ∀ l : List UInt8, isSign2 l = true → l.length = 2 := fun l hl => by
      simp only [isSign2, decide_eq_true_eq] at hl
      rcases hl with h | h | h | h | h | h <;> simp [h]
    simp only [tokAt] at h
    split at h
    · rename_i hc
      have hi : isIdent c = true := by simp [isIdent, hc]
      split at h
      · cases h; exact ⟨hpos _ hi, htw _, rfl⟩
      · split at h
        · cases h
        · cases h; exact ⟨hpos _ hi, htw _, rfl⟩
    · split at h
      · rename_i hd
        split at h
        · cases h
        · split at h
          · split at h
            · cases h
            · cases h; exact ⟨hpos _ hd, htw _, rfl⟩
          · cases h; exact ⟨hpos _ hd, htw _, rfl⟩
      · split at h
        · rename_i hs
          cases h
          have hl := h2 _ hs
          exact ⟨by dsimp only; omega, by dsimp only; rw [hl], rfl⟩
        · split at h
          · cases h; exact ⟨by simp, by simp, rfl⟩
          · cases h

theorem scanF_fuel : ∀ (k j : Nat) (r : List UInt8) (i : Nat), r.length < k → r.length < j → scanF k r i = scanF j r i
  | 0, _, _, _, h, _ => by omega
  | _ + 1, 0, _, _, _, h => by omega
  | k + 1, j + 1, r, i, h1, h2 => by
    simp only [scanF]
    cases hd : r.drop (skip r) with
    | nil => rfl
    | cons c r' =>
      have hl : (c :: r').length ≤ r.length := by rw [← hd]; simp
      cases ht : tokAt (c :: r') (i + skip r) with
      | bad rule p => simp only [ht]
      | tok t =>
        have h3 := (tok_len ht).1
        have h4 : 1 ≤ (c :: r').length := by simp
        have e := scanF_fuel k j ((c :: r').drop t.text.length) (i + skip r + t.text.length) (by simp only [List.length_drop]; omega) (by simp only [List.length_drop]; omega)
        simp only [ht, e]

def scanA (r : List UInt8) (i : Nat) : List Tok × Option (Nat × Nat) := scanF (r.length + 1) r i
theorem front_eq (s : List UInt8) : front s = scanA s 0 := rfl
theorem scanA_end {r : List UInt8} {i : Nat} (h : r.length ≤ skip r) : scanA r i = ([], none) := by
  simp only [scanA, scanF]
  rw [List.drop_eq_nil_of_le h]
theorem scanA_bad {r : List UInt8} {i rule p : Nat} (h : skip r < r.length) (hb : tokAt (r.drop (skip r)) (i + skip r) = .bad rule p) : scanA r i = ([], some (rule, p)) := by
  simp only [scanA, scanF]
  cases hd : r.drop (skip r) with
  | nil => have := congrArg List.length hd; simp at this; omega
  | cons c r' => rw [hd] at hb; simp only [hb]
theorem scanA_tok {r : List UInt8} {i : Nat} {t : Tok} (h : skip r < r.length) (hb : tokAt (r.drop (skip r)) (i + skip r) = .tok t) :
    scanA r i = (t :: (scanA (r.drop (skip r + t.text.length)) (i + skip r + t.text.length)).1, (scanA (r.drop (skip r + t.text.length)) (i + skip r + t.text.length)).2) := by
  have h3 := (tok_len hb).1
  have e : scanA (r.drop (skip r + t.text.length)) (i + skip r + t.text.length) = scanF r.length (r.drop (skip r + t.text.length)) (i + skip r + t.text.length) :=
    scanF_fuel _ _ _ _ (by omega) (by simp only [List.length_drop]; omega)
  rw [e]
  simp only [scanA, scanF]
  cases hd : r.drop (skip r) with
  | nil => have := congrArg List.length hd; simp at this; omega
  | cons c r' =>
    rw [hd] at hb
    simp only [hb]
    rw [← hd, List.drop_drop]

/-- Scan's answer: tokens, error, place, rule -/
def scanRes (s : List UInt8) : List Tok × Nat × Nat × Nat :=
  if 65536 < s.length then ([], 4, 0, 0) else match (front s).2 with
    | none => ((front s).1, 0, 0, 0)
    | some (rule, p) => ([], 20, p, rule)
end LexS
