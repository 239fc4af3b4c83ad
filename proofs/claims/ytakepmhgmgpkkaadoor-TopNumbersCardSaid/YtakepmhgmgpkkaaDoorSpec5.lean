/- Plain laws on tokens that are told: which are right, and that printed they are cut again. -/
import Derived.Test.YtakepmhgmgpkkaaDoorSpec3
namespace LexS
/-- the document's answer for a number's digits -/
def numV (l : List UInt8) : Option Nat := if l = [] ∨ (1 < l.length ∧ l.getD 0 0 = 48) ∨ l.all isDigit = false ∨ 9223372036854775807 < numVal l then none else some (numVal l)
/-- a token is right: cut alone it is itself -/
def rgtB (t : List UInt8) (k w : Int) : Bool := match tokAt t 0 with | .tok x => decide (x.text = t ∧ (x.kind : Int) = k ∧ (x.word : Int) = w) | .bad _ _ => false
/-- the document's word for it -/
def docRight (t : List UInt8) (k w : Int) : Bool :=
  (decide (k = 1) && isName t && decide (w = 0)) || (decide (k = 2) && isWord t && decide (w = 0)) || (decide (k = 3) && decide ((numV t).map (fun n : Nat => (n : Int)) = some w)) || (decide (k = 4) && isSign t && decide (w = 0))

theorem tw_self {p : UInt8 → Bool} : ∀ {l : List UInt8}, l.all p = true → l.takeWhile p = l
  | [], _ => rfl
  | c :: l, h => by
    simp only [List.all_cons, Bool.and_eq_true] at h
    rw [List.takeWhile_cons, if_pos h.1, tw_self h.2]
theorem tw_all (p : UInt8 → Bool) : ∀ (l : List UInt8), (l.takeWhile p).all p = true
  | [] => rfl
  | c :: l => by
    rw [List.takeWhile_cons]
    split
    · rename_i h; simp [h, tw_all p l]
    · rfl
theorem digit_not_letter {c : UInt8} (h : isDigit c = true) : isLetter c = false := by
  simp only [isDigit, isLetter, decide_eq_true_eq, decide_eq_false_iff_not] at *; omega
theorem word_tok {t : List UInt8} (h : isWord t = true) : tokAt t 0 = .tok ⟨2, t, 0, 0⟩ := by
  simp only [isWord, decide_eq_true_eq] at h
  rcases h with h | h | h | h | h | h | h | h | h | h <;> subst h <;> decide
theorem sign_tok {t : List UInt8} (h : isSign t = true) : tokAt t 0 = .tok ⟨4, t, 0, 0⟩ := by
  simp only [isSign, Bool.or_eq_true] at h
  rcases h with h | h
  · simp only [isSign2, decide_eq_true_eq] at h
    rcases h with h | h | h | h | h | h <;> subst h <;> decide
  · match t, h with
    | [], h => simp [isSign1] at h
    | _ :: _ :: _, h => simp [isSign1] at h
    | [c], h =>
      simp only [isSign1, signs1, List.contains_iff_mem, List.mem_cons, List.not_mem_nil, or_false] at h
      rcases h with h | h | h | h | h | h | h | h | h | h | h | h | h | h | h | h | h | h <;> subst h <;> decide
theorem name_tok {t : List UInt8} (h : isName t = true) : tokAt t 0 = .tok ⟨1, t, 0, 0⟩ := by
  match t, h with
  | [], h => simp [isName] at h
  | c :: r, h =>
    simp only [isName, Bool.and_eq_true, decide_eq_true_eq, Bool.not_eq_true'] at h
    obtain ⟨⟨⟨h1, h2⟩, h3⟩, h4⟩ := h
    have hc : isLetter c = true := by
      have := h4
      simp only [List.all_cons, Bool.and_eq_true, isIdent, Bool.or_eq_true, h2, Bool.false_eq_true, or_false] at this
      exact this.1
    simp only [tokAt, hc, if_true, tw_self h4, h3, Bool.false_eq_true, if_false]
    rw [if_neg (by omega)]
theorem num_tok {t : List UInt8} {n : Nat} (h : numV t = some n) : tokAt t 0 = .tok ⟨3, t, n, 0⟩ := by
  unfold numV at h
  split at h
  · cases h
  · rename_i hn
    cases h
    simp only [not_or, Bool.not_eq_false] at hn
    obtain ⟨h1, h2, h3, h4⟩ := hn
    match t, h1 with
    | c :: r, _ =>
      have hd : isDigit c = true := by simp only [List.all_cons, Bool.and_eq_true] at h3; exact h3.1
      simp only [tokAt, digit_not_letter hd, hd, Bool.false_eq_true, if_false, if_true, tw_self h3]
      rw [if_neg (by rintro (h | h); exact h2 ⟨h.1, by simpa using h.2⟩; omega)]
      simp
/-- a token that is cut is right -/
theorem tok_right {r : List UInt8} {i : Nat} {x : Tok} (h : tokAt r i = .tok x) : (x.kind = 1 ∧ isName x.text = true ∧ x.word = 0) ∨ (x.kind = 2 ∧ isWord x.text = true ∧ x.word = 0) ∨ (x.kind = 3 ∧ numV x.text = some x.word) ∨ (x.kind = 4 ∧ isSign x.text = true ∧ x.word = 0) := by
  match r, h with
  | [], h => simp [tokAt] at h
  | c :: r, h =>
    simp only [tokAt] at h
    split at h
    · rename_i hc
      split at h
      · rename_i hw; cases h; exact .inr (.inl ⟨rfl, hw, rfl⟩)
      · rename_i hw
        split at h
        · cases h
        · rename_i hl
          cases h
          refine .inl ⟨rfl, ?_, rfl⟩
          have hi : isIdent c = true := by simp [isIdent, hc]
          have ha := tw_all isIdent (c :: r)
          have hnd : isDigit c = false := by
            simp only [isDigit, isLetter, decide_eq_true_eq, decide_eq_false_iff_not] at *; omega
          rw [List.takeWhile_cons, if_pos hi] at hw hl ha ⊢
          simp only [isName, hnd, ha, Bool.not_eq_true] at *
          simp only [hw]
          simp at hl ⊢
          omega
    · split at h
      · rename_i hc hd
        split at h
        · cases h
        · rename_i hn
          have key : numV ((c :: r).takeWhile isDigit) = some (numVal ((c :: r).takeWhile isDigit)) := by
            unfold numV
            rw [if_neg]
            have ha := tw_all isDigit (c :: r)
            rw [List.takeWhile_cons, if_pos hd] at hn ha ⊢
            rintro (h | h | h | h)
            · cases h
            · exact hn (.inl ⟨h.1, by simpa using h.2⟩)
            · rw [ha] at h; cases h
            · exact hn (.inr h)
          split at h
          · split at h
            · cases h
            · cases h; exact .inr (.inr (.inl ⟨rfl, key⟩))
          · cases h; exact .inr (.inr (.inl ⟨rfl, key⟩))
      · split at h
        · rename_i hs
          cases h; exact .inr (.inr (.inr ⟨rfl, by show isSign _ = true; unfold isSign; rw [hs]; rfl, rfl⟩))
        · split at h
          · rename_i hs
            cases h; exact .inr (.inr (.inr ⟨rfl, by simp [isSign, hs], rfl⟩))
          · cases h
theorem rgt_doc (t : List UInt8) (k w : Int) : rgtB t k w = docRight t k w := by
  rw [Bool.eq_iff_iff]
  constructor
  · intro h
    unfold rgtB at h
    split at h
    · rename_i x hx
      simp only [decide_eq_true_eq] at h
      obtain ⟨h1, rfl, rfl⟩ := h
      have := tok_right hx
      rw [h1] at this
      unfold docRight
      rcases this with ⟨a, b, c⟩ | ⟨a, b, c⟩ | ⟨a, b⟩ | ⟨a, b, c⟩ <;> simp [a, b] <;> (try simp [c])
    · cases h
  · intro h
    unfold docRight at h
    simp only [Bool.or_eq_true, Bool.and_eq_true, decide_eq_true_eq] at h
    unfold rgtB
    rcases h with ((⟨⟨rfl, h⟩, rfl⟩ | ⟨⟨rfl, h⟩, rfl⟩) | ⟨rfl, h⟩) | ⟨⟨rfl, h⟩, rfl⟩
    · rw [name_tok h]; simp
    · rw [word_tok h]; simp
    · cases hn : numV t with
      | none => rw [hn] at h; cases h
      | some n => rw [hn] at h; simp at h; subst h; rw [num_tok hn]; simp
    · rw [sign_tok h]; simp
theorem rgt_tok {t : List UInt8} {k w : Int} (h : rgtB t k w = true) : ∃ x, tokAt t 0 = .tok x ∧ x.text = t ∧ (x.kind : Int) = k ∧ (x.word : Int) = w := by
  unfold rgtB at h
  split at h
  · rename_i x hx; exact ⟨x, hx, by simpa using h⟩
  · cases h
theorem rgt_of {r : List UInt8} {i : Nat} {x : Tok} (h : tokAt r i = .tok x) : rgtB x.text x.kind x.word = true := by
  rw [rgt_doc]
  unfold docRight
  rcases tok_right h with ⟨a, b, c⟩ | ⟨a, b, c⟩ | ⟨a, b⟩ | ⟨a, b, c⟩ <;> simp [a, b] <;> (try simp [c])
theorem rgt_skip {t : List UInt8} {x : Tok} {i : Nat} (h : tokAt t i = .tok x) (ht : x.text = t) : skip t = 0 := by
  match t, h with
  | [], h => simp [tokAt] at h
  | c :: r, h =>
    have hb : isBlank c = false := by
      cases hb : isBlank c with
      | false => rfl
      | true =>
        exfalso
        obtain ⟨b1, b2, b3, b4, b5⟩ := blank_not hb
        have h2 : isSign2 ((c :: r).take 2) = false := by
          simp only [isSign2, decide_eq_false_iff_not]
          have hy : c.toNat = 32 ∨ c.toNat = 9 ∨ c.toNat = 10 ∨ c.toNat = 13 := by simpa [isBlank] using hb
          rintro (h | h | h | h | h | h) <;> (cases r with
            | nil => simp at h
            | cons d r => simp at h; obtain ⟨rfl, -⟩ := h; simp at hy)
        have h1 : isSign1 [c] = false := by
          have hy : c.toNat = 32 ∨ c.toNat = 9 ∨ c.toNat = 10 ∨ c.toNat = 13 := by simpa [isBlank] using hb
          simp only [isSign1]
          cases hs : signs1.contains c with
          | false => rfl
          | true =>
            simp only [signs1, List.contains_iff_mem, List.mem_cons, List.not_mem_nil, or_false] at hs
            rcases hs with h | h | h | h | h | h | h | h | h | h | h | h | h | h | h | h | h | h <;> subst h <;> simp at hy
        simp only [tokAt, b2, b3, h2, h1, Bool.false_eq_true, if_false] at h
        cases h
    refine skip_other hb ?_
    cases hr : isRem (c :: r) with
    | false => rfl
    | true =>
      exfalso
      match r, hr with
      | [], hr => simp [isRem] at hr
      | d :: r, hr =>
        simp only [isRem, decide_eq_true_eq] at hr
        obtain ⟨rfl, rfl⟩ := hr
        have e1 : isLetter 47 = false := by decide
        have e2 : isDigit 47 = false := by decide
        have e3 : isSign2 (List.take 2 (47 :: 47 :: r)) = false := by
          rw [show List.take 2 (47 :: 47 :: r) = [47, 47] from rfl]; decide
        have e4 : isSign1 [47] = true := by decide
        simp only [tokAt, e1, e2, e3, e4, Bool.false_eq_true, if_false, if_true] at h
        cases h
        have := congrArg List.length ht
        simp at this
theorem scanA_sp (Z : List UInt8) (j : Nat) : scanA (32 :: Z) j = scanA Z (j + 1) := by
  have hs : skip (32 :: Z) = skip Z + 1 := skip_blank (by decide)
  rcases Nat.lt_or_ge (skip Z) Z.length with hk | hk
  · have e : (32 :: Z).drop (skip (32 :: Z)) = Z.drop (skip Z) := by rw [hs]; rfl
    have e2 : j + skip (32 :: Z) = j + 1 + skip Z := by omega
    cases hx : tokAt (Z.drop (skip Z)) (j + 1 + skip Z) with
    | bad rule p => rw [scanA_bad hk hx, scanA_bad (by rw [hs]; simpa using hk) (by rw [e, e2]; exact hx)]
    | tok x =>
      rw [scanA_tok hk hx, scanA_tok (by rw [hs]; simpa using hk) (by rw [e, e2]; exact hx)]
      have e3 : (32 :: Z).drop (skip (32 :: Z) + x.text.length) = Z.drop (skip Z + x.text.length) := by
        rw [hs, show skip Z + 1 + x.text.length = (skip Z + x.text.length) + 1 by omega]; rfl
      rw [e3, e2]
  · rw [scanA_end hk, scanA_end (by rw [hs]; simpa using hk)]
/-- texts with a blank between -/
def joinB : List (List UInt8) → List UInt8
  | [] => []
  | [x] => x
  | x :: r => x ++ 32 :: joinB r
def trip (x : Tok) : List UInt8 × Int × Int := (x.text, (x.kind : Int), (x.word : Int))
theorem join_scan : ∀ (l : List (List UInt8 × Int × Int)) (i : Nat), (∀ x ∈ l, rgtB x.1 x.2.1 x.2.2 = true) → ∃ T, scanA (joinB (l.map (·.1))) i = (T, none) ∧ T.map trip = l
  | [], i, h => ⟨[], scanA_end (by simp [joinB]), rfl⟩
  | [x], i, h => by
    obtain ⟨y, hy, h1, h2, h3⟩ := rgt_tok (h x (.head _))
    have hs := rgt_skip hy h1
    have hl := tok_len hy
    refine ⟨[moved i y], ?_, ?_⟩
    · have hx : tokAt (x.1.drop (skip x.1)) (i + skip x.1) = .tok (moved i y) := by rw [hs]; exact tokAt_move hy i
      simp only [List.map_cons, List.map_nil, joinB]
      rw [scanA_tok (by rw [hs, ← h1]; omega) hx, hs, Nat.zero_add, show (moved i y).text = y.text from rfl, h1, List.drop_length]
      rw [scanA_end (by simp)]
    · simp [trip, moved, h1, h2, h3]
  | x :: z :: r, i, h => by
    obtain ⟨y, hy, h1, h2, h3⟩ := rgt_tok (h x (.head _))
    have hs := rgt_skip hy h1
    have hl := tok_len hy
    rw [h1] at hl
    obtain ⟨T, hT, hTm⟩ := join_scan (z :: r) (i + x.1.length + 1) (fun q hq => h q (.tail _ hq))
    refine ⟨moved i y :: T, ?_, ?_⟩
    · have hb : isBlank 32 = true := by decide
      have e : joinB ((x :: z :: r).map (·.1)) = x.1.take x.1.length ++ 32 :: joinB ((z :: r).map (·.1)) := by rw [List.take_length]; rfl
      have hk : skip (x.1.take x.1.length ++ 32 :: joinB ((z :: r).map (·.1))) = 0 := by rw [skip_keep _ _ _ _ (by omega) (Nat.le_refl _) hb, hs]
      have hx : tokAt (x.1.take x.1.length ++ 32 :: joinB ((z :: r).map (·.1))) i = .tok (moved i y) := tokAt_app (tokAt_move hy i) (by show y.text.length ≤ _; rw [h1]; exact Nat.le_refl _) hb
      rw [e, scanA_tok (t := moved i y) (by rw [hk]; simp only [List.length_append, List.length_cons]; omega) (by rw [hk]; exact hx), hk, Nat.zero_add, Nat.add_zero, show (moved i y).text = x.1 from h1, List.take_length, List.drop_left, scanA_sp, hT]
    · simp [trip, moved, h1, h2, h3, ← hTm]
theorem scan_right : ∀ (T : List Tok) (r : List UInt8) (i : Nat) (f : Option (Nat × Nat)), scanA r i = (T, f) → ∀ x ∈ T, rgtB x.text x.kind x.word = true
  | [], r, i, f, h, x, hx => by simp at hx
  | t :: T, r, i, f, h, x, hx => by
    obtain ⟨h1, h2, h3⟩ := scan_inv h
    rcases List.mem_cons.1 hx with rfl | hx
    · exact rgt_of h2
    · exact scan_right T _ _ _ h3 x hx
end LexS
