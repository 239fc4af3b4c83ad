/- A part of the proof: contracts of functions and plain laws; each theorem says its own conditions. -/
import Derived.Great.BuildSlice
import Derived.Lib.AppendStr
import Derived.Laws.BytesArg
import Derived.Laws.MakeOwn
import Derived.Laws.OwnMore
import Derived.WalkKit
import Derived.ProofKit
import Derived.OpenShut
import Derived.ChangeOld
import Derived.OpenVars
import Derived.Below
import Derived.Test.YtnmhlpnapgojjaaDoorK1
import Derived.Test.YtnmhlpnapgojjaaDoorK0
/- Plain laws on tokens that are told: which are right, and that printed they are cut again. -/
namespace LexS
/-- the document's answer for a number's digits -/
def numV (l : List UInt8) : Option Nat := if l = [] ∨ (1 < l.length ∧ l.getD 0 0 = 48) ∨ l.all isDigit = false ∨ 9223372036854775807 < numVal l then none else some (numVal l)
/-- a token is right: cut alone it is itself -/
def rgtB (t : List UInt8) (k w : Int) : Bool := match tokAt t 0 with | .tok x => decide (x.text = t ∧ (x.kind : Int) = k ∧ (x.word : Int) = w) | .bad _ _ => false
/-- the document's word for it -/
def docRight (t : List UInt8) (k w : Int) : Bool :=
  (decide (k = 1) && isName t && decide (w = 0)) || (decide (k = 2) && isWord t && decide (w = 0)) || (decide (k = 3) && decide ((numV t).map (fun n : Nat => (n : Int)) = some w)) || (decide (k = 4) && isSign t && decide (w = 0))

theorem tw_self {p : UInt8 → Bool} : ∀ {l : List UInt8}, l.all p = true → l.takeWhile p = l
  | [], _ => rfl
  | c :: l, h => by
    simp only [List.all_cons, Bool.and_eq_true] at h
    rw [List.takeWhile_cons, if_pos h.1, tw_self h.2]
theorem tw_all (p : UInt8 → Bool) : ∀ (l : List UInt8), (l.takeWhile p).all p = true
  | [] => rfl
  | c :: l => by
    rw [List.takeWhile_cons]
    split
    · rename_i h; simp [h, tw_all p l]
    · rfl
theorem digit_not_letter {c : UInt8} (h : isDigit c = true) : isLetter c = false := by
  simp only [isDigit, isLetter, decide_eq_true_eq, decide_eq_false_iff_not] at *; omega
theorem word_tok {t : List UInt8} (h : isWord t = true) : tokAt t 0 = .tok ⟨2, t, 0, 0⟩ := by
  simp only [isWord, decide_eq_true_eq] at h
  rcases h with h | h | h | h | h | h | h | h | h | h <;> subst h <;> decide
theorem sign_tok {t : List UInt8} (h : isSign t = true) : tokAt t 0 = .tok ⟨4, t, 0, 0⟩ := by
  simp only [isSign, Bool.or_eq_true] at h
  rcases h with h | h
  · simp only [isSign2, decide_eq_true_eq] at h
    rcases h with h | h | h | h | h | h <;> subst h <;> decide
  · match t, h with
    | [], h => simp [isSign1] at h
    | _ :: _ :: _, h => simp [isSign1] at h
    | [c], h =>
      simp only [isSign1, signs1, List.contains_iff_mem, List.mem_cons, List.not_mem_nil, or_false] at h
      rcases h with h | h | h | h | h | h | h | h | h | h | h | h | h | h | h | h | h | h <;> subst h <;> decide
theorem name_tok {t : List UInt8} (h : isName t = true) : tokAt t 0 = .tok ⟨1, t, 0, 0⟩ := by
  match t, h with
  | [], h => simp [isName] at h
  | c :: r, h =>
    simp only [isName, Bool.and_eq_true, decide_eq_true_eq, Bool.not_eq_true'] at h
    obtain ⟨⟨⟨h1, h2⟩, h3⟩, h4⟩ := h
    have hc : isLetter c = true := by
      have := h4
      simp only [List.all_cons, Bool.and_eq_true, isIdent, Bool.or_eq_true, h2, Bool.false_eq_true, or_false] at this
      exact this.1
    simp only [tokAt, hc, if_true, tw_self h4, h3, Bool.false_eq_true, if_false]
    rw [if_neg (by omega)]
theorem num_tok {t : List UInt8} {n : Nat} (h : numV t = some n) : tokAt t 0 = .tok ⟨3, t, n, 0⟩ := by
  unfold numV at h
  split at h
  · cases h
  · rename_i hn
    cases h
    simp only [not_or, Bool.not_eq_false] at hn
    obtain ⟨h1, h2, h3, h4⟩ := hn
    match t, h1 with
    | c :: r, _ =>
      have hd : isDigit c = true := by simp only [List.all_cons, Bool.and_eq_true] at h3; exact h3.1
      simp only [tokAt, digit_not_letter hd, hd, Bool.false_eq_true, if_false, if_true, tw_self h3]
      rw [if_neg (by rintro (h | h); exact h2 ⟨h.1, by simpa using h.2⟩; omega)]
      simp
/-- a token that is cut is right -/
theorem tok_right {r : List UInt8} {i : Nat} {x : Tok} (h : tokAt r i = .tok x) : (x.kind = 1 ∧ isName x.text = true ∧ x.word = 0) ∨ (x.kind = 2 ∧ isWord x.text = true ∧ x.word = 0) ∨ (x.kind = 3 ∧ numV x.text = some x.word) ∨ (x.kind = 4 ∧ isSign x.text = true ∧ x.word = 0) := by
  match r, h with
  | [], h => simp [tokAt] at h
  | c :: r, h =>
    simp only [tokAt] at h
    split at h
    · rename_i hc
      split at h
      · rename_i hw; cases h; exact .inr (.inl ⟨rfl, hw, rfl⟩)
      · rename_i hw
        split at h
        · cases h
        · rename_i hl
          cases h
          refine .inl ⟨rfl, ?_, rfl⟩
          have hi : isIdent c = true := by simp [isIdent, hc]
          have ha := tw_all isIdent (c :: r)
          have hnd : isDigit c = false := by
            simp only [isDigit, isLetter, decide_eq_true_eq, decide_eq_false_iff_not] at *; omega
          rw [List.takeWhile_cons, if_pos hi] at hw hl ha ⊢
          simp only [isName, hnd, ha, Bool.not_eq_true] at *
          simp only [hw]
          simp at hl ⊢
          omega
    · split at h
      · rename_i hc hd
        split at h
        · cases h
        · rename_i hn
          have key : numV ((c :: r).takeWhile isDigit) = some (numVal ((c :: r).takeWhile isDigit)) := by
            unfold numV
            rw [if_neg]
            have ha := tw_all isDigit (c :: r)
            rw [List.takeWhile_cons, if_pos hd] at hn ha ⊢
            rintro (h | h | h | h)
            · cases h
            · exact hn (.inl ⟨h.1, by simpa using h.2⟩)
            · rw [ha] at h; cases h
            · exact hn (.inr h)
          split at h
          · split at h
            · cases h
            · cases h; exact .inr (.inr (.inl ⟨rfl, key⟩))
          · cases h; exact .inr (.inr (.inl ⟨rfl, key⟩))
      · split at h
        · rename_i hs
          cases h; exact .inr (.inr (.inr ⟨rfl, by show isSign _ = true; unfold isSign; rw [hs]; rfl, rfl⟩))
        · split at h
          · rename_i hs
            cases h; exact .inr (.inr (.inr ⟨rfl, by simp [isSign, hs], rfl⟩))
          · cases h
theorem rgt_doc (t : List UInt8) (k w : Int) : rgtB t k w = docRight t k w := by
  rw [Bool.eq_iff_iff]
  constructor
  · intro h
    unfold rgtB at h
    split at h
    · rename_i x hx
      simp only [decide_eq_true_eq] at h
      obtain ⟨h1, rfl, rfl⟩ := h
      have := tok_right hx
      rw [h1] at this
      unfold docRight
      rcases this with ⟨a, b, c⟩ | ⟨a, b, c⟩ | ⟨a, b⟩ | ⟨a, b, c⟩ <;> simp [a, b] <;> (try simp [c])
    · cases h
  · intro h
    unfold docRight at h
    simp only [Bool.or_eq_true, Bool.and_eq_true, decide_eq_true_eq] at h
    unfold rgtB
    rcases h with ((⟨⟨rfl, h⟩, rfl⟩ | ⟨⟨rfl, h⟩, rfl⟩) | ⟨rfl, h⟩) | ⟨⟨rfl, h⟩, rfl⟩
    · rw [name_tok h]; simp
    · rw [word_tok h]; simp
    · cases hn : numV t with
      | none => rw [hn] at h; cases h
      | some n => rw [hn] at h; simp at h; subst h; rw [num_tok hn]; simp
    · rw [sign_tok h]; simp
theorem rgt_tok {t : List UInt8} {k w : Int} (h : rgtB t k w = true) : ∃ x, tokAt t 0 = .tok x ∧ x.text = t ∧ (x.kind : Int) = k ∧ (x.word : Int) = w := by
  unfold rgtB at h
  split at h
  · rename_i x hx; exact ⟨x, hx, by simpa using h⟩
  · cases h
theorem rgt_of {r : List UInt8} {i : Nat} {x : Tok} (h : tokAt r i = .tok x) : rgtB x.text x.kind x.word = true := by
  rw [rgt_doc]
  unfold docRight
  rcases tok_right h with ⟨a, b, c⟩ | ⟨a, b, c⟩ | ⟨a, b⟩ | ⟨a, b, c⟩ <;> simp [a, b] <;> (try simp [c])
theorem rgt_skip {t : List UInt8} {x : Tok} {i : Nat} (h : tokAt t i = .tok x) (ht : x.text = t) : skip t = 0 := by
  match t, h with
  | [], h => simp [tokAt] at h
  | c :: r, h =>
    have hb : isBlank c = false := by
      cases hb : isBlank c with
      | false => rfl
      | true =>
        exfalso
        obtain ⟨b1, b2, b3, b4, b5⟩ := blank_not hb
        have h2 : isSign2 ((c :: r).take 2) = false := by
          simp only [isSign2, decide_eq_false_iff_not]
          have hy : c.toNat = 32 ∨ c.toNat = 9 ∨ c.toNat = 10 ∨ c.toNat = 13 := by simpa [isBlank] using hb
          rintro (h | h | h | h | h | h) <;> (cases r with
            | nil => simp at h
            | cons d r => simp at h; obtain ⟨rfl, -⟩ := h; simp at hy)
        have h1 : isSign1 [c] = false := by
          have hy : c.toNat = 32 ∨ c.toNat = 9 ∨ c.toNat = 10 ∨ c.toNat = 13 := by simpa [isBlank] using hb
          simp only [isSign1]
          cases hs : signs1.contains c with
          | false => rfl
          | true =>
            simp only [signs1, List.contains_iff_mem, List.mem_cons, List.not_mem_nil, or_false] at hs
            rcases hs with h | h | h | h | h | h | h | h | h | h | h | h | h | h | h | h | h | h <;> subst h <;> simp at hy
        simp only [tokAt, b2, b3, h2, h1, Bool.false_eq_true, if_false] at h
        cases h
    refine skip_other hb ?_
    cases hr : isRem (c :: r) with
    | false => rfl
    | true =>
      exfalso
      match r, hr with
      | [], hr => simp [isRem] at hr
      | d :: r, hr =>
        simp only [isRem, decide_eq_true_eq] at hr
        obtain ⟨rfl, rfl⟩ := hr
        have e1 : isLetter 47 = false := by decide
        have e2 : isDigit 47 = false := by decide
        have e3 : isSign2 (List.take 2 (47 :: 47 :: r)) = false := by
          rw [show List.take 2 (47 :: 47 :: r) = [47, 47] from rfl]; decide
        have e4 : isSign1 [47] = true := by decide
        simp only [tokAt, e1, e2, e3, e4, Bool.false_eq_true, if_false, if_true] at h
        cases h
        have := congrArg List.length ht
        simp at this
theorem scanA_sp (Z : List UInt8) (j : Nat) : scanA (32 :: Z) j = scanA Z (j + 1) := by
  have hs : skip (32 :: Z) = skip Z + 1 := skip_blank (by decide)
  rcases Nat.lt_or_ge (skip Z) Z.length with hk | hk
  · have e : (32 :: Z).drop (skip (32 :: Z)) = Z.drop (skip Z) := by rw [hs]; rfl
    have e2 : j + skip (32 :: Z) = j + 1 + skip Z := by omega
    cases hx : tokAt (Z.drop (skip Z)) (j + 1 + skip Z) with
    | bad rule p => rw [scanA_bad hk hx, scanA_bad (by rw [hs]; simpa using hk) (by rw [e, e2]; exact hx)]
    | tok x =>
      rw [scanA_tok hk hx, scanA_tok (by rw [hs]; simpa using hk) (by rw [e, e2]; exact hx)]
      have e3 : (32 :: Z).drop (skip (32 :: Z) + x.text.length) = Z.drop (skip Z + x.text.length) := by
        rw [hs, show skip Z + 1 + x.text.length = (skip Z + x.text.length) + 1 by omega]; rfl
      rw [e3, e2]
  · rw [scanA_end hk, scanA_end (by rw [hs]; simpa using hk)]
/-- texts with a blank between -/
def joinB : List (List UInt8) → List UInt8
  | [] => []
  | [x] => x
  | x :: r => x ++ 32 :: joinB r
def trip (x : Tok) : List UInt8 × Int × Int := (x.text, (x.kind : Int), (x.word : Int))
theorem join_scan : ∀ (l : List (List UInt8 × Int × Int)) (i : Nat), (∀ x ∈ l, rgtB x.1 x.2.1 x.2.2 = true) → ∃ T, scanA (joinB (l.map (·.1))) i = (T, none) ∧ T.map trip = l
  | [], i, h => ⟨[], scanA_end (by simp [joinB]), rfl⟩
  | [x], i, h => by
    obtain ⟨y, hy, h1, h2, h3⟩ := rgt_tok (h x (.head _))
    have hs := rgt_skip hy h1
    have hl := tok_len hy
    refine ⟨[moved i y], ?_, ?_⟩
    · have hx : tokAt (x.1.drop (skip x.1)) (i + skip x.1) = .tok (moved i y) := by rw [hs]; exact tokAt_move hy i
      simp only [List.map_cons, List.map_nil, joinB]
      rw [scanA_tok (by rw [hs, ← h1]; omega) hx, hs, Nat.zero_add, show (moved i y).text = y.text from rfl, h1, List.drop_length]
      rw [scanA_end (by simp)]
    · simp [trip, moved, h1, h2, h3]
  | x :: z :: r, i, h => by
    obtain ⟨y, hy, h1, h2, h3⟩ := rgt_tok (h x (.head _))
    have hs := rgt_skip hy h1
    have hl := tok_len hy
    rw [h1] at hl
    obtain ⟨T, hT, hTm⟩ := join_scan (z :: r) (i + x.1.length + 1) (fun q hq => h q (.tail _ hq))
    refine ⟨moved i y :: T, ?_, ?_⟩
    · have hb : isBlank 32 = true := by decide
      have e : joinB ((x :: z :: r).map (·.1)) = x.1.take x.1.length ++ 32 :: joinB ((z :: r).map (·.1)) := by rw [List.take_length]; rfl
      have hk : skip (x.1.take x.1.length ++ 32 :: joinB ((z :: r).map (·.1))) = 0 := by rw [skip_keep _ _ _ _ (by omega) (Nat.le_refl _) hb, hs]
      have hx : tokAt (x.1.take x.1.length ++ 32 :: joinB ((z :: r).map (·.1))) i = .tok (moved i y) := tokAt_app (tokAt_move hy i) (by show y.text.length ≤ _; rw [h1]; exact Nat.le_refl _) hb
      rw [e, scanA_tok (t := moved i y) (by rw [hk]; simp only [List.length_append, List.length_cons]; omega) (by rw [hk]; exact hx), hk, Nat.zero_add, Nat.add_zero, show (moved i y).text = x.1 from h1, List.take_length, List.drop_left, scanA_sp, hT]
    · simp [trip, moved, h1, h2, h3, ← hTm]
theorem scan_right : ∀ (T : List Tok) (r : List UInt8) (i : Nat) (f : Option (Nat × Nat)), scanA r i = (T, f) → ∀ x ∈ T, rgtB x.text x.kind x.word = true
  | [], r, i, f, h, x, hx => by simp at hx
  | t :: T, r, i, f, h, x, hx => by
    obtain ⟨h1, h2, h3⟩ := scan_inv h
    rcases List.mem_cons.1 hx with rfl | hx
    · exact rgt_of h2
    · exact scan_right T _ _ _ h3 x hx
end LexS

/- Plain laws on numbers as texts: they are cut as one number. -/
namespace LexS
def decF : Nat → Nat → List UInt8
  | 0, n => [UInt8.ofNat (48 + n % 10)]
  | k + 1, n => if n < 10 then [UInt8.ofNat (48 + n)] else decF k (n / 10) ++ [UInt8.ofNat (48 + n % 10)]
/-- a number's digits -/
def dec (n : Nat) : List UInt8 := decF n n
theorem decF_fuel : ∀ (k j n : Nat), n ≤ k → n ≤ j → decF k n = decF j n
  | 0, 0, n, _, _ => rfl
  | 0, j + 1, n, h, _ => by
    obtain rfl : n = 0 := by omega
    simp [decF]
  | k + 1, 0, n, _, h => by
    obtain rfl : n = 0 := by omega
    simp [decF]
  | k + 1, j + 1, n, h1, h2 => by
    simp only [decF]
    split
    · rfl
    · rw [decF_fuel k j (n / 10) (by omega) (by omega)]
theorem dec_small {n : Nat} (h : n < 10) : dec n = [UInt8.ofNat (48 + n)] := by
  unfold dec
  cases n with
  | zero => rfl
  | succ n => simp only [decF]; rw [if_pos h]
theorem dec_big {n : Nat} (h : 10 ≤ n) : dec n = dec (n / 10) ++ [UInt8.ofNat (48 + n % 10)] := by
  unfold dec
  obtain ⟨m, rfl⟩ : ∃ m, n = m + 1 := ⟨n - 1, by omega⟩
  simp only [decF]
  rw [if_neg (by omega), decF_fuel m ((m + 1) / 10) _ (by omega) (by omega)]
theorem digit_of {d : Nat} (h : d < 10) : isDigit (UInt8.ofNat (48 + d)) = true ∧ (UInt8.ofNat (48 + d)).toNat = 48 + d := by
  have e : (UInt8.ofNat (48 + d)).toNat = 48 + d := by
    rw [UInt8.toNat_ofNat']; omega
  refine ⟨?_, e⟩
  simp only [isDigit, decide_eq_true_eq, e]; omega
theorem dec_ind (P : Nat → Prop) (h1 : ∀ n, n < 10 → P n) (h2 : ∀ n, 10 ≤ n → P (n / 10) → P n) (n : Nat) : P n := by
  induction n using Nat.strongRecOn with
  | _ n ih =>
    rcases Nat.lt_or_ge n 10 with h | h
    · exact h1 n h
    · exact h2 n h (ih (n / 10) (by omega))
theorem dec_all (n : Nat) : (dec n).all isDigit = true := by
  refine dec_ind (fun n => (dec n).all isDigit = true) (fun n h => ?_) (fun n h ih => ?_) n
  · rw [dec_small h, List.all_cons, (digit_of h).1]; rfl
  · rw [dec_big h, List.all_append, ih, List.all_cons, (digit_of (Nat.mod_lt n (by omega : 0 < 10))).1]; rfl
theorem dec_val (n : Nat) : numVal (dec n) = n := by
  refine dec_ind (fun n => numVal (dec n) = n) (fun n h => ?_) (fun n h ih => ?_) n
  · rw [dec_small h]; simp only [numVal, List.foldl_cons, List.foldl_nil, (digit_of h).2]; omega
  · rw [dec_big h, numVal_snoc, ih, (digit_of (Nat.mod_lt n (by omega : 0 < 10))).2]; omega
theorem dec_pos (n : Nat) : 1 ≤ (dec n).length := by
  refine dec_ind (fun n => 1 ≤ (dec n).length) (fun n h => ?_) (fun n h ih => ?_) n
  · rw [dec_small h]; simp
  · rw [dec_big h]; simp
theorem dec_len (k : Nat) : ∀ n, n < 10 ^ (k + 1) → (dec n).length ≤ k + 1 := by
  induction k with
  | zero => intro n h; rw [dec_small (by simpa using h)]; simp
  | succ k ih =>
    intro n h
    rcases Nat.lt_or_ge n 10 with h1 | h1
    · rw [dec_small h1]; simp
    · rw [dec_big h1]
      have := ih (n / 10) (by rw [Nat.div_lt_iff_lt_mul (by omega)]; rw [Nat.pow_succ] at h; exact h)
      simp; omega
theorem dec_head (n : Nat) : 10 ≤ n → (dec n).getD 0 0 ≠ 48 ∧ True := by
  have key : ∀ n, 1 ≤ n → (dec n).getD 0 0 ≠ 48 := by
    refine dec_ind (fun n => 1 ≤ n → (dec n).getD 0 0 ≠ 48) (fun n h h1 => ?_) (fun n h ih h1 => ?_)
    · rw [dec_small h]
      intro e
      have e2 := congrArg UInt8.toNat (by simpa using e : UInt8.ofNat (48 + n) = 48)
      rw [(digit_of h).2] at e2
      simp at e2; omega
    · rw [dec_big h]
      have hp := dec_pos (n / 10)
      have := ih (by omega)
      simp only [List.getD] at this ⊢
      rw [List.getElem?_append_left (by omega)]
      exact this
  exact fun h => ⟨key n (by omega), trivial⟩
theorem tw_dec (n : Nat) (Z : List UInt8) (hZ : Z = [] ∨ ∃ r, Z = 32 :: r) : (dec n ++ Z).takeWhile isDigit = dec n := by
  rcases hZ with rfl | ⟨r, rfl⟩
  · rw [List.append_nil]; exact tw_self (dec_all n)
  · have := tw_app (p := isDigit) (y := 32) (Z := r) (by decide) (dec n) (dec n).length (by rw [tw_self (dec_all n)]; exact Nat.le_refl _)
    rw [List.take_length, tw_self (dec_all n)] at this
    exact this
theorem dec_lead (n : Nat) (c : UInt8) (r : List UInt8) (h : dec n = c :: r) : ¬(1 < (dec n).length ∧ c = 48) := by
  rintro ⟨h1, rfl⟩
  have h10 : 10 ≤ n := by
    rcases Nat.lt_or_ge n 10 with h2 | h2
    · rw [dec_small h2] at h1; simp at h1
    · exact h2
  exact (dec_head n h10).1 (by rw [h]; rfl)
/-- a number that stands alone, with blanks behind it -/
theorem dec_tok (n i : Nat) (Z : List UInt8) (hZ : Z = [] ∨ ∃ r, Z = 32 :: r) : tokAt (dec n ++ Z) i = if 9223372036854775807 < n then .bad 3 i else .tok ⟨3, dec n, n, i⟩ := by
  have ht := tw_dec n Z hZ
  have hv := dec_val n
  have hp := dec_pos n
  have ha := dec_all n
  obtain ⟨c, r, hd⟩ : ∃ c r, dec n = c :: r := by
    match hq : dec n, hp with
    | c :: r, _ => exact ⟨c, r, rfl⟩
  have hlead := dec_lead n c r hd
  have hc : isDigit c = true := by rw [hd, List.all_cons, Bool.and_eq_true] at ha; exact ha.1
  have hdrop : (dec n ++ Z).drop (dec n).length = Z := List.drop_left
  rw [hd] at ht hdrop hv hlead ⊢
  rw [List.cons_append] at ht hdrop ⊢
  simp only [tokAt, digit_not_letter hc, hc, Bool.false_eq_true, if_false, if_true, ht, hv, hdrop]
  by_cases hn : 9223372036854775807 < n
  · rw [if_pos (.inr hn), if_pos hn]
  · rw [if_neg (by rintro (h | h); exact hlead h; exact hn h), if_neg hn]
    rcases hZ with rfl | ⟨q, rfl⟩
    · rfl
    · have : isLetter 32 = false := by decide
      simp [this]
theorem skip_dec (n : Nat) (Z : List UInt8) : skip (dec n ++ Z) = 0 := by
  have hp := dec_pos n
  have ha := dec_all n
  obtain ⟨c, r, hd⟩ : ∃ c r, dec n = c :: r := by
    match hq : dec n, hp with
    | c :: r, _ => exact ⟨c, r, rfl⟩
  have hc : isDigit c = true := by rw [hd, List.all_cons, Bool.and_eq_true] at ha; exact ha.1
  have hcn : 48 ≤ c.toNat ∧ c.toNat ≤ 57 := by simpa [isDigit] using hc
  rw [hd, List.cons_append]
  refine skip_other (by simp only [isBlank, decide_eq_false_iff_not]; omega) ?_
  cases hr : r ++ Z with
  | nil => rfl
  | cons d q =>
    simp only [isRem, decide_eq_false_iff_not]
    rintro ⟨rfl, -⟩
    simp at hcn
def sps (k : Nat) : List UInt8 := List.replicate k 32
theorem scan_sps (k : Nat) (Z : List UInt8) (i : Nat) : scanA (sps k ++ Z) i = scanA Z (i + k) := by
  induction k generalizing i with
  | zero => simp [sps]
  | succ k ih =>
    rw [show sps (k + 1) ++ Z = 32 :: (sps k ++ Z) by simp [sps, List.replicate_succ], scanA_sp, ih]
    congr 1; omega
theorem sps_form (k : Nat) : sps k = [] ∨ ∃ r, sps k = 32 :: r := by
  cases k with
  | zero => exact .inl rfl
  | succ k => exact .inr ⟨sps k, by simp [sps, List.replicate_succ]⟩
theorem scan_end (k i : Nat) : scanA (sps k) i = ([], none) := by
  have := scan_sps k [] i
  rw [List.append_nil] at this
  rw [this]; exact scanA_end (by simp)
theorem scan_dec (n k i : Nat) : scanA (dec n ++ sps k) i = if 9223372036854775807 < n then ([], some (3, i)) else ([⟨3, dec n, n, i⟩], none) := by
  have hs := skip_dec n (sps k)
  have hp := dec_pos n
  have ht := dec_tok n i (sps k) (sps_form k)
  by_cases hn : 9223372036854775807 < n
  · rw [if_pos hn] at ht ⊢
    exact scanA_bad (by rw [hs]; simp; omega) (by rw [hs]; exact ht)
  · rw [if_neg hn] at ht ⊢
    rw [scanA_tok (t := ⟨3, dec n, n, i⟩) (by rw [hs]; simp; omega) (by rw [hs]; exact ht), hs]
    simp only [Nat.zero_add, List.drop_left, scan_end]
theorem scan_neg (n k i : Nat) : scanA (45 :: (dec n ++ sps k)) i = if 9223372036854775807 < n then ([⟨4, [45], 0, i⟩], some (3, i + 1)) else ([⟨4, [45], 0, i⟩, ⟨3, dec n, n, i + 1⟩], none) := by
  have hb : isBlank 45 = false := by decide
  have hs : skip (45 :: (dec n ++ sps k)) = 0 := by
    refine skip_other hb ?_
    cases hr : dec n ++ sps k with
    | nil => rfl
    | cons d q => simp [isRem]
  have h1 : isLetter 45 = false := by decide
  have h2 : isDigit 45 = false := by decide
  have h3 : isSign2 ((45 :: (dec n ++ sps k)).take 2) = false := by
    cases hr : dec n ++ sps k with
    | nil => decide
    | cons d q => simp [isSign2]
  have h4 : isSign1 [45] = true := by decide
  have ht : tokAt (45 :: (dec n ++ sps k)) i = .tok ⟨4, [45], 0, i⟩ := by
    simp only [tokAt, h1, h2, h3, h4, Bool.false_eq_true, if_false, if_true]
  rw [scanA_tok (t := ⟨4, [45], 0, i⟩) (by rw [hs]; simp) (by rw [hs]; exact ht), hs]
  simp only [Nat.zero_add, Nat.add_zero, List.length_cons, List.length_nil, List.drop_succ_cons, List.drop_zero, scan_dec]
  split <;> rfl
/-- a word's text -/
def shw (w : Int) : List UInt8 := if w < 0 then 45 :: dec w.natAbs else dec w.natAbs
theorem scan_shw (w : Int) (k : Nat) : scanA (sps k ++ (shw w ++ sps k)) 0 =
    if w < 0 then (if 9223372036854775807 < w.natAbs then ([⟨4, [45], 0, k⟩], some (3, k + 1)) else ([⟨4, [45], 0, k⟩, ⟨3, dec w.natAbs, w.natAbs, k + 1⟩], none))
    else (if 9223372036854775807 < w.natAbs then ([], some (3, k)) else ([⟨3, dec w.natAbs, w.natAbs, k⟩], none)) := by
  rw [scan_sps, Nat.zero_add]
  unfold shw
  split
  · rw [List.cons_append, scan_neg]
  · rw [scan_dec]
theorem scan_sign {t : List UInt8} (h : isSign t = true) : scanA t 0 = ([⟨4, t, 0, 0⟩], none) := by
  have ht := sign_tok h
  have hs := rgt_skip ht rfl
  have hl := tok_len ht
  rw [scanA_tok (t := ⟨4, t, 0, 0⟩) (by rw [hs]; exact hl.1) (by rw [hs]; exact ht), hs, Nat.zero_add]
  simp only [List.drop_length]
  rw [scanA_end (by simp)]
end LexS

/- The operators, their signs and levels: no program in sight. -/
namespace LexS
set_option linter.unusedVariables false
set_option linter.unusedSimpArgs false
/-- the operators' signs and levels -/
def sgnT : List (List UInt8 × Int) := [([], 0), ([43], 7), ([45], 7), ([42], 8), ([47], 8), ([37], 8), ([38], 3), ([124], 1), ([94], 2), ([60, 60], 6), ([62, 62], 6), ([61, 61], 4), ([33, 61], 4), ([60], 5), ([60, 61], 5), ([62], 5), ([62, 61], 5), ([45], 9), ([33], 9)]
def sgn (k : Nat) : List UInt8 := (sgnT.getD k ([], 0)).1
def lvl (k : Nat) : Int := (sgnT.getD k ([], 0)).2
def knownOp (k : Int) : Bool := decide (0 < k ∧ k < 19)
def twoOp (k : Int) : Bool := decide (0 < k ∧ k < 17)
theorem sgn_sign' : ∀ k, k < 19 → 1 ≤ k → isSign (sgn k) = true := by decide
theorem sgn_sign (k : Nat) (h : 1 ≤ k) (h' : k < 19) : isSign (sgn k) = true := sgn_sign' k h' h
theorem sgn_ne' : ∀ k, k < 19 → 1 ≤ k → sgn k ≠ [] := by decide
theorem sgn_ne (k : Nat) (h : 1 ≤ k) (h' : k < 19) : sgn k ≠ [] := sgn_ne' k h' h
def shwO (k : Int) : List UInt8 := if knownOp k = true then sgn k.toNat else []
def lvlO (k : Int) : Int := if knownOp k = true then lvl k.toNat else 0
theorem shwO_nat (m : Nat) (h : m < 19) : shwO (m : Int) = sgn m := by
  unfold shwO
  split
  · rfl
  · rename_i hk
    have : m = 0 := by simp [knownOp] at hk; omega
    subst this; rfl
theorem lvlO_nat (m : Nat) (h : m < 19) : lvlO (m : Int) = lvl m := by
  unfold lvlO
  split
  · rfl
  · rename_i hk
    have : m = 0 := by simp [knownOp] at hk; omega
    subst this; rfl
theorem shwO_big (k : Int) (h : 19 ≤ k) : shwO k = [] := by
  unfold shwO; rw [if_neg (by simp [knownOp]; omega)]
theorem lvlO_big (k : Int) (h : 19 ≤ k) : lvlO k = 0 := by
  unfold lvlO; rw [if_neg (by simp [knownOp]; omega)]
theorem shwO_len' : ∀ m, m < 19 → (sgn m).length ≤ 2 := by decide
theorem shwO_len (k : Int) : (shwO k).length ≤ 2 := by
  unfold shwO
  split
  · rename_i h
    simp [knownOp] at h
    exact shwO_len' _ (by omega)
  · simp
def oneOp (k : Int) : Bool := decide (k = 17 ∨ k = 18)
/-- the operator of two with a sign -/
def findO (s : List UInt8) : Option Nat := (List.range 19).find? fun k => twoOp (k : Int) && decide (sgn k = s)
end LexS

/- The engine, seventh part: append of a row that can be read; stores into a row that is owned; slice literals. -/
namespace Sx
open Go Go.RowKit
set_option linter.unusedVariables false
set_option linter.unusedSimpArgs false
section
variable {w0 w w' : World} {M : List Nat} {hs : List Res}
variable {P : Program} {n : Fr} {L : List Oper} {Q : Exit → Act → World → Prop} {kn : Kn} {N : Act → World → Prop}
variable {d ty : Nat} {pos : String} {aft : Array Edge} {g : Option (Nat × Bool)}

/-- a row that can be read -/
def RdRow (w : World) (oa : Option Addr) (c : Nat) (l : List Value) : Prop := (oa = none ∧ l = [] ∧ c = 0) ∨ ∃ a, oa = some a ∧ ∀ k u, l[k]? = some u → w.cell? (a.add k) = some u

theorem own_rd {base e size m c : Nat} {oa : Option Addr} {xs : List Value} (h : w.ownsRow base e size (.slice oa m c) m xs) : RdRow w oa c xs := by
  rcases Nat.eq_zero_or_pos m with hm | hm
  · subst hm
    have h0 : xs = [] := by apply List.eq_nil_of_length_eq_zero; rw [h.1]; simp
    subst h0
    rcases h.2 with ⟨e, _⟩ | ⟨g, cap, cur, e, _⟩
    · simp only [Value.slice.injEq] at e; exact .inl ⟨e.1, rfl, e.2.2⟩
    · simp only [Value.slice.injEq] at e; exact .inr ⟨⟨g, 0, none⟩, e.1, fun k u hk => by simp at hk⟩
  · obtain ⟨g, cap, e, _⟩ := own_form h hm
    simp only [Value.slice.injEq] at e
    obtain ⟨rfl, -, rfl⟩ := e
    exact .inr ⟨⟨g, 0, none⟩, rfl, fun k u hk => by rw [addr_add, Nat.zero_add]; exact own_cell h hk⟩
theorem RdRow.kept {oa : Option Addr} {c : Nat} {l : List Value} (h : RdRow w oa c l) (k : Chg [] w w') : RdRow w' oa c l :=
  h.imp id fun ⟨a, e, hc⟩ => ⟨a, e, fun i u hi => k.cell (hc i u hi) (by simp)⟩

theorem e_appc (st : St w0 M hs w) (i : Nat) {T E size bytes m len c : Nat} {x y : Operand} {v z : Value} {oa : Option Addr} {xs l : List Value} {ti : TypeInfo} (hw : gd L kn g = some true) (hd : okDst n (some d) = true)
    (hx : evO kn x = some v) (hy : evO kn y = some (.slice oa m c)) (hi : nth hs i = some (.own v E size len xs)) (hsrc : RdRow w oa c l)
    (ht : P.underlying T = some (.slice E)) (hinfo : P.info? E = some ti) (hz : ti.zero = some z) (hsize : ti.size = size) (hby : ti.bytes = bytes) (hzs : z.cells.size = size) (hsz : Nat.blt 0 size = true)
    (hl : l.length = m * size) (h1 : ∀ u ∈ l, u.oneCell' = true) (h63 : len + m ≤ maxLen) (hbytes : (len + m) * bytes ≤ 140737488355328) {len' : Nat} {ys : List Value} (hlen' : len + m = len') (hys : xs ++ l = ys)
    (next : ∀ oa cap w', St w0 M (setNth hs i (.own (.slice oa len' cap) E size len' ys)) w' → vN n N ((d, .slice oa len' cap) :: kn) w') :
    vS P n L Q ⟨some d, .call ⟨.builtin .append, #[x, y], #[T, T]⟩, ty, pos, aft, g⟩ N kn w := by
  subst hlen' hys
  have hsz' : 0 < size := by simpa [Nat.blt_eq] using hsz
  have hown0 : w.ownsRow w0.heap.size E size v len xs := st.res hi
  obtain ⟨v', w', hr, hown, hg, hat, ⟨oa', cap, rfl⟩⟩ : ∃ v' w', (Builtin.append_ #[T, T] ty #[v, .slice oa m c]).run P w = .ok v' w' ∧ w'.ownsRow w0.heap.size E size v' (len + m) (xs ++ l) ∧ w.grownBy w' v.ownBlock ∧
      (v'.ownBlock = v.ownBlock ∨ v'.ownBlock = some w.heap.size) ∧ ∃ oa cap, v' = .slice oa (len + m) cap := by
    rcases hsrc with ⟨rfl, rfl, rfl⟩ | ⟨a, rfl, hc⟩
    · obtain rfl : m = 0 := by
        simp only [List.length_nil] at hl
        rcases Nat.eq_zero_or_pos m with h | h
        · exact h
        · have := Nat.mul_pos h hsz'; omega
      refine ⟨v, w, run_append_owned_none (P := P) w w0.heap.size T ty E ti size ht hinfo v len xs hown0, by simpa using hown0, ⟨rfl, rfl, rfl, Nat.le_refl _, fun _ _ _ => rfl⟩, .inl rfl, ?_⟩
      rcases hown0.2 with ⟨rfl, h0⟩ | ⟨g, cap, cur, rfl, _⟩
      · exact ⟨none, 0, by rw [h0]⟩
      · exact ⟨_, _, rfl⟩
    · obtain ⟨v', w', hr, hown, hg, hnil, hat⟩ := run_append_own_at (P := P) w w0.heap.size T ty E ti z size bytes ht hinfo hz hsize hby hzs hsz' v len xs hown0 a m c l hl
        (fun k u hk => hc k u hk) h1 h63 hbytes st.chg.size
      refine ⟨v', w', hr, hown, hg, hat, ?_⟩
      rcases hown.2 with ⟨rfl, h0⟩ | ⟨g, cap, cur, rfl, _⟩
      · exact ⟨none, 0, by rw [h0]⟩
      · exact ⟨_, _, rfl⟩
  refine e_bi [v, .slice oa m c] hw hd (by simp [hx, hy]) (w' := w') (fun cs => ?_) (next oa' cap w' (st.app hi hg hown hat))
  simp only [builtin, Sem.run_bind, List.toArray, hr]
  rfl

theorem run_storeCells_own (base E size len cap b : Nat) : ∀ (vs : List Value) (xs : List Value) (off i : Nat) (w : World), w.ownsRow base E size (.slice (some ⟨b, 0, none⟩) len cap) len xs → off + i + vs.length ≤ xs.length → (∀ v ∈ vs, v.oneCell' = true) →
    ∃ w' xs', (storeCells ⟨b, off, none⟩ vs i).run P w = .ok () w' ∧ w'.ownsRow base E size (.slice (some ⟨b, 0, none⟩) len cap) len xs' ∧ w.grownBy w' (some b) ∧ xs' = xs.take (off + i) ++ vs ++ xs.drop (off + i + vs.length)
  | [], xs, off, i, w, h, hl, h1 => ⟨w, xs, by simp [storeCells, go_sem], h, ⟨rfl, rfl, rfl, Nat.le_refl _, fun _ _ _ => rfl⟩, by simp⟩
  | v :: vs, xs, off, i, w, h, hl, h1 => by
    simp only [List.length_cons] at hl
    have hc : w.cell? ⟨b, off + i, none⟩ = some (xs[off + i]'(by omega)) := own_cell h (by simp)
    have hf : w.frozen? ⟨b, off + i, none⟩ = false := World.ownsRow.frozenAt h _
    have h' := World.ownsRow.stored h (off + i) v
    obtain ⟨w', xs', hr, hh, hg', hl'⟩ := run_storeCells_own base E size len cap b vs (xs.set (off + i) v) off (i + 1) _ h'.1 (by simp; omega) (fun u hu => h1 u (.tail _ hu))
    refine ⟨w', xs', ?_, hh, ⟨hg'.os.trans h'.2.os, hg'.tape.trans h'.2.tape, hg'.output.trans h'.2.output, Nat.le_trans h'.2.size hg'.size, fun k hk hn => (hg'.block k (Nat.lt_of_lt_of_le hk h'.2.size) hn).trans (h'.2.block k hk hn)⟩, ?_⟩
    · have hone : v.oneCell' = true := h1 v (.head _)
      have hst : (store ⟨b, off + i, none⟩ v).run P w = .ok () (w.setCell ⟨b, off + i, none⟩ v) := by
        cases v <;> first | (simp [Value.oneCell'] at hone; done) | simp [store, Sem.run, hc, hf]
      simp only [storeCells, Sem.run_bind, addr_add, hst, Result.andThen_ok]
      exact hr
    · rw [hl', show off + (i + 1) = (off + i) + 1 from by omega, List.take_set, List.drop_set, if_pos (by omega), List.take_succ_eq_append_getElem (by omega : off + i < xs.length)]
      rw [List.set_append_right _ _ (by simp; omega)]
      simp only [List.length_take, Nat.min_eq_left (by omega : off + i ≤ xs.length), Nat.sub_self, List.set_cons_zero, List.append_assoc, List.cons_append, List.nil_append, List.length_cons]
      try rw [show off + i + 1 + vs.length = off + i + (vs.length + 1) from by omega]

/-- a store into a row that is owned -/
theorem e_stso (st : St w0 M hs w) (i : Nat) {x y : Operand} {T b off E size len cap : Nat} {xs : List Value} {v : Value} {vs : List Value} (hw : gd L kn g = some true) (hx : evO kn x = some (.pointer (some ⟨b, off, none⟩)))
    (hy : evO kn y = some v) (hv : v.cells.toList = vs) (h1 : allOne vs = true) (hsz : ∀ w, (Go.sizeOf T).run P w = .ok vs.length w)
    (hi : nth hs i = some (.own (.slice (some ⟨b, 0, none⟩) len cap) E size len xs)) (hlt : off + vs.length ≤ xs.length)
    (next : ∀ w', St w0 M (setNth hs i (.own (.slice (some ⟨b, 0, none⟩) len cap) E size len (xs.take off ++ vs ++ xs.drop (off + vs.length)))) w' → vN n N kn w') : vS P n L Q (⟨none, .store T x y, ty, pos, aft, g⟩) N kn w := by
  obtain ⟨w', xs', hr, hh, hg', hl⟩ := run_storeCells_own (P := P) w0.heap.size E size len cap b vs xs off 0 w (st.res hi) (by simpa using hlt) (allOne_spec h1)
  have hl' : xs' = xs.take off ++ vs ++ xs.drop (off + vs.length) := by simpa using hl
  subst hl'
  refine e_do hw rfl (w' := w') (fun a ha => ?_) (next w' (st.app hi hg' hh (.inl rfl)))
  simp only [execOp, ha.ev hx, ha.ev hy]
  have hsz' : v.cells.size = vs.length := by rw [← hv]; simp
  have key : (storeVar T ⟨b, off, none⟩ v).run P w = .ok () w' := by
    simp only [storeVar, Sem.run_bind, hsz, Result.andThen_ok, hsz', ne_eq, not_true_eq_false, ↓reduceIte, hv, hr]
  simp only [Instr.storeAt, Instr.sureAddr, Sem.run_bind, Sem.run_pure, Result.andThen_ok, key]

/-- a slice literal, by its run -/
theorem e_bsn (st : St w0 M hs w) {T E len : Nat} {parts : Array (Nat × Operand)} {l : List Value} (vals : List (Nat × Value)) (hw : gd L kn g = some true) (hd : okDst n (some d) = true)
    (hv : parts.toList.map (fun p => (evO kn p.2).map (p.1, ·)) = vals.map some)
    (hrun : ∀ w, (Instr.buildSlice T len vals.toArray).run P w = .ok (.slice (some ⟨w.heap.size, 0, none⟩) len len) (w.alloc (.cells l.toArray E (0, 0))))
    (next : ∀ b w', w0.heap.size ≤ b → St w0 M (.blk b (.cells l.toArray E (0, 0)) :: hs) w' → vN n N ((d, .slice (some ⟨b, 0, none⟩) len len) :: kn) w') :
    vS P n L Q ⟨some d, .buildSlice T len parts, ty, pos, aft, g⟩ N kn w := by
  refine e_new st (v := .slice (some ⟨w.heap.size, 0, none⟩) len len) (l := l) (E := E) hw hd (fun a ha => ?_) (fun b w' e hb st' => by subst e; exact next _ w' hb st')
  have hargs : (parts.map fun (i, x) => (i, a.eval x)) = vals.toArray := by
    apply Array.toList_inj.1
    rw [Array.toList_map]
    generalize parts.toList = az at hv
    simp only
    clear hrun
    induction az generalizing vals with
    | nil => cases vals with | nil => rfl | cons v vs => simp at hv
    | cons x xs ih =>
      cases vals with
      | nil => simp at hv
      | cons v vs =>
        simp only [List.map_cons, List.cons.injEq] at hv
        obtain ⟨h1, h2⟩ := hv
        cases hx : evO kn x.2 with
        | none => simp [hx] at h1
        | some u =>
          simp only [hx, Option.map_some, Option.some.injEq] at h1
          subst h1
          simp only [List.map_cons, ha.ev hx, ih vs h2]
  simp only [execOp, hargs, Sem.run_bind, hrun, Result.andThen_ok, Sem.run_pure]

/-- a new row is owned -/
theorem St.toOwn {b E : Nat} {l : List Value} (st : St w0 M (.blk b (.cells l.toArray E (0, 0)) :: hs) w) {len size : Nat} (hb : w0.heap.size ≤ b) (hlen : l.length = len * size) (hm : len ≤ maxLen) :
    St w0 M (.own (.slice (some ⟨b, 0, none⟩) len len) E size len l :: hs) w := by
  have hh := st.res (i := 0) rfl
  refine st.turn0 (fun k hk => by simpa [Res.at?, Value.ownBlock] using hk) ⟨hlen, .inr ⟨b, len, l.toArray, rfl, hb, hh, Nat.le_refl _, hm, by simpa using hlen, ?_⟩⟩
  simp only [← hlen]
  exact List.take_of_length_le (by simp)
/-- []T{} -/
theorem e_bs0 (st : St w0 M hs w) {T E sz : Nat} (hw : gd L kn g = some true) (hd : okDst n (some d) = true)
    (ht : P.underlying T = some (.slice E)) (hs1 : ∀ w, (Go.sizeOf E).run P w = .ok sz w)
    (next : ∀ b w', w0.heap.size ≤ b → St w0 M (.own (.slice (some ⟨b, 0, none⟩) 0 0) E sz 0 [] :: hs) w' → vN n N ((d, .slice (some ⟨b, 0, none⟩) 0 0) :: kn) w') :
    vS P n L Q ⟨some d, .buildSlice T 0 #[], ty, pos, aft, g⟩ N kn w := by
  refine e_bsn st (l := []) (E := E) [] hw hd rfl (fun w => ?_) (fun b w' hb st' => next b w' hb (st'.toOwn hb (by simp) (Nat.zero_le _)))
  simp [Instr.buildSlice, run_underlying ht, hs1, Instr.fill, newRow, newObj, Sem.run, go_sem]
end
end Sx

/- The engine, twelfth part: slices of slices; what a row that is owned reads as. -/
namespace Sx
open Go Go.RowKit
set_option linter.unusedVariables false
set_option linter.unusedSimpArgs false
section
variable {w0 w w' : World} {M : List Nat} {hs : List Res}
variable {P : Program} {n : Fr} {L : List Oper} {Q : Exit → Act → World → Prop} {kn : Kn} {N : Act → World → Prop}
variable {d ty : Nat} {pos : String} {aft : Array Edge} {g : Option (Nat × Bool)}

theorem addr_add0 (a : Addr) : a.add 0 = a := by unfold Addr.add; simp

/-- x[:j] of a slice -/
theorem y_slh {x hi : Operand} {T E sz j len cap : Nat} {oa : Option Addr} {jk : IntKind} {jj : Int} (hx : evO kn x = some (.slice oa len cap))
  (hhi : evO kn hi = some (.int jk jj)) (ht : P.underlying T = some (.slice E)) (hs : ∀ w, (Go.sizeOf E).run P w = .ok sz w) (hj1 : jj = (j : Int)) (hj : j ≤ cap) : Y P n kn w ⟨some d, .slice T x none (some hi) none, ty, pos, aft, g⟩ (.slice oa j cap) :=
  (fun a ha => by
    subst hj1
    have h2 : (j : Int) ≤ (cap : Int) := by omega
    simp only [execOp, Option.map_some, Option.map_none, ha.ev hx, ha.ev hhi]
    simp only [Instr.sliceAt, Instr.slice, Instr.sliceBounds, Instr.sliceBound, asIntOf, Sem.run_bind, run_underlying ht, Result.andThen_ok, hs]
    simp [hj, hs]
    intro _; cases oa <;> simp [addr_add0])
/-- x[i:] of a slice -/
theorem y_sll {x lo : Operand} {T E sz i len cap : Nat} {oa : Option Addr} {ik : IntKind} {ii : Int} (hx : evO kn x = some (.slice oa len cap))
  (hlo : evO kn lo = some (.int ik ii)) (ht : P.underlying T = some (.slice E)) (hs : ∀ w, (Go.sizeOf E).run P w = .ok sz w) (hi1 : ii = (i : Int)) (hi : i ≤ len) (hcap : len ≤ cap) : Y P n kn w ⟨some d, .slice T x (some lo) none none, ty, pos, aft, g⟩ (.slice (if cap = i then oa else oa.map fun x => x.add (i * sz)) (len - i) (cap - i)) :=
  (fun a ha => by
    subst hi1
    simp only [execOp, Option.map_some, Option.map_none, ha.ev hx, ha.ev hlo]
    simp only [Instr.sliceAt, Instr.slice, Instr.sliceBounds, Instr.sliceBound, asIntOf, Sem.run_bind, run_underlying ht, Result.andThen_ok, hs]
    simp [hi, hs])
end
end Sx

/- The engine, thirteenth part: bytes: append of a string's, a string of bytes; max; make. -/
namespace Sx
open Go Go.RowKit Go.Lib
set_option linter.unusedVariables false
set_option linter.unusedSimpArgs false

abbrev bytesL (l : List UInt8) : List Value := l.map fun b => Value.int .u8 (b.toNat : Int)
theorem strCells_eq (l : List UInt8) : strCells ⟨l.toArray⟩ = bytesL l := by simp [strCells]

section
variable {w0 w w' : World} {M : List Nat} {hs : List Res}
variable {P : Program} {n : Fr} {L : List Oper} {Q : Exit → Act → World → Prop} {kn : Kn} {N : Act → World → Prop}
variable {d ty : Nat} {pos : String} {aft : Array Edge} {g : Option (Nat × Bool)}

/-- a row that can be read, at a plain address -/
def RdRowP (w : World) (oa : Option Addr) (c : Nat) (l : List Value) : Prop := (oa = none ∧ l = [] ∧ c = 0) ∨ ∃ b off, oa = some ⟨b, off, none⟩ ∧ ∀ k u, l[k]? = some u → w.cell? ⟨b, off + k, none⟩ = some u
theorem own_rdp {base e size m c : Nat} {oa : Option Addr} {xs : List Value} (h : w.ownsRow base e size (.slice oa m c) m xs) : RdRowP w oa c xs := by
  rcases Nat.eq_zero_or_pos m with hm | hm
  · subst hm
    have h0 : xs = [] := by apply List.eq_nil_of_length_eq_zero; rw [h.1]; simp
    subst h0
    rcases h.2 with ⟨e, _⟩ | ⟨g, cap, cur, e, _⟩
    · simp only [Value.slice.injEq] at e; exact .inl ⟨e.1, rfl, e.2.2⟩
    · simp only [Value.slice.injEq] at e; exact .inr ⟨g, 0, e.1, fun k u hk => by simp at hk⟩
  · obtain ⟨g, cap, e, _⟩ := own_form h hm
    simp only [Value.slice.injEq] at e
    obtain ⟨rfl, -, rfl⟩ := e
    exact .inr ⟨g, 0, rfl, fun k u hk => by rw [Nat.zero_add]; exact own_cell h hk⟩
theorem St.app2 (st : St w0 M hs w) {i e size n n' : Nat} {v v' : Value} {xs xs' : List Value} (hi : nth hs i = some (.own v e size n xs)) (hg : w.grownBy w' v.ownBlock)
    (hown : w'.ownsRow w0.heap.size e size v' n' xs') (hat : ∀ k, v'.ownBlock = some k → v.ownBlock = some k ∨ w.heap.size ≤ k) :
    St w0 M (setNth hs i (.own v' e size n' xs')) w' :=
  st.swap hi (Chg.of_grownByO hg) (by simp [Res.at?]) (fun k hk => .inr ((World.ownsRow.lt (st.res hi) k (by simpa using hk)).1)) (fun k hk => by
    simp only [Res.at?, Option.mem_toList] at hk ⊢
    exact hat k hk) hown

theorem app_str (base : Nat) {T U tyy E : Nat} {ti : TypeInfo} (ht : P.underlying T = some (.slice E)) (hu : P.underlying U = some .string) (hi : P.info? E = some ti) (hz : ti.zero = some (.int .u8 0)) (hsize : ti.size = 1) (hby : ti.bytes = 1)
    {v : Value} {m : Nat} {xs : List Value} (hown : w.ownsRow base E 1 v m xs) (p : List UInt8) (h63 : m + p.length ≤ maxLen) (hbytes : m + p.length ≤ 140737488355328) (hbase : base ≤ w.heap.size) :
    ∃ v' w', (Builtin.append_ #[T, U] tyy #[v, str p]).run P w = .ok v' w' ∧ w'.ownsRow base E 1 v' (m + p.length) (xs ++ bytesL p) ∧ w.grownBy w' v.ownBlock ∧ (∀ k, v'.ownBlock = some k → v.ownBlock = some k ∨ w.heap.size ≤ k) := by
  have hs : (⟨p.toArray⟩ : ByteArray).size = p.length := rfl
  obtain ⟨v', w', hr, ho, hg, hn⟩ := run_append_own_string (P := P) (ty := tyy) w base T U E ti ht hu hi hz hsize hby v m xs hown ⟨p.toArray⟩ h63 hbytes hbase
  rw [strCells_eq, hs] at ho
  refine ⟨v', w', hr, ho, hg, fun k hk => ?_⟩
  rcases hown.2 with ⟨rfl, rfl⟩ | ⟨b, cap, cur, rfl, hbg, hb, hnc, hcm, hcs, htake⟩
  · have hx : xs = [] := List.eq_nil_of_length_eq_zero (by simpa using hown.1)
    subst hx
    obtain ⟨v2, w2, hr2, ho2, _⟩ := run_append_own_string (P := P) (ty := tyy) w w.heap.size T U E ti ht hu hi hz hsize hby _ 0 [] (World.ownsRow_nil w _ E 1) ⟨p.toArray⟩ h63 hbytes (Nat.le_refl _)
    rw [hr] at hr2
    cases hr2
    exact .inr (World.ownsRow.lt ho2 k hk).1
  · have hcs' : cur.size = cap := by simpa using hcs
    have hxl : xs.length = m := by simpa using hown.1
    by_cases hroom : m + p.length ≤ cap
    · have hr2 := run_append_room_string (P := P) (ty := tyy) w T U E ti ht hu hi hsize b m cap cur hb ⟨p.toArray⟩ hroom (by rw [hs]; omega)
      rw [hr] at hr2
      cases hr2
      exact .inl hk
    · have hc : ∀ j u, xs[j]? = some u → w.cell? ((⟨b, 0, none⟩ : Addr).add j) = some u := World.ownsRow.cells hown rfl
      have hr2 := run_append_grow_string (P := P) (ty := tyy) w T U E ti (.int .u8 0) ht hu hi hz ⟨b, 0, none⟩ m cap xs (by rw [hsize]; simpa using hxl) hc ⟨p.toArray⟩ (by rw [hs]; omega) (by unfold maxLen at h63; omega) (by rw [hby]; exact growslice_fits (by omega) (by omega))
      rw [hr] at hr2
      cases hr2
      simp only [Value.ownBlock] at hk
      simp at hk
      exact .inr (by omega)

/-- append(v, s...): bytes of a string -/
theorem e_apps (st : St w0 M hs w) (i : Nat) {T U E len : Nat} {x y : Operand} {v : Value} {xs : List Value} {p : List UInt8} {ti : TypeInfo} (hw : gd L kn g = some true) (hd : okDst n (some d) = true)
    (hx : evO kn x = some v) (hy : evO kn y = some (str p)) (hi : nth hs i = some (.own v E 1 len xs))
    (ht : P.underlying T = some (.slice E)) (hu : P.underlying U = some .string) (hinfo : P.info? E = some ti) (hz : ti.zero = some (.int .u8 0)) (hsize : ti.size = 1) (hby : ti.bytes = 1)
    {len' : Nat} {ys : List Value} (hlen' : len + p.length = len') (hys : xs ++ bytesL p = ys) (h63 : len' ≤ 140737488355328)
    (next : ∀ oa cap w', St w0 M (setNth hs i (.own (.slice oa len' cap) E 1 len' ys)) w' → vN n N ((d, .slice oa len' cap) :: kn) w') :
    vS P n L Q ⟨some d, .call ⟨.builtin .append, #[x, y], #[T, U]⟩, ty, pos, aft, g⟩ N kn w := by
  subst hlen' hys
  obtain ⟨v', w', hr, ho, hg, hat⟩ := app_str (P := P) (tyy := ty) w0.heap.size ht hu hinfo hz hsize hby (st.res hi) p (by unfold maxLen; omega) h63 st.chg.size
  obtain ⟨oa, cap, rfl⟩ : ∃ oa cap, v' = .slice oa (len + p.length) cap := by
    rcases ho.2 with ⟨rfl, h0⟩ | ⟨g, cap, cur, rfl, _⟩
    · exact ⟨none, 0, by rw [h0]⟩
    · exact ⟨_, _, rfl⟩
  refine e_bi [v, str p] hw hd (by simp [hx, hy]) (w' := w') (fun cs => ?_) (next oa cap w' (st.app2 hi hg ho hat))
  simp only [builtin, Sem.run_bind, List.toArray, hr]
  rfl

/-- string(bytes) -/
theorem y_b2s {x : Operand} {T U E m c : Nat} {oa : Option Addr} {p : List UInt8} (hx : evO kn x = some (.slice oa m c)) (hrd : RdRowP w oa c (bytesL p)) (hm : p.length = m)
    (ht : P.underlying T = some (.slice E)) (he : P.underlying E = some (.int .u8)) (hu : P.underlying U = some .string) : Y P n kn w ⟨some d, .convert T U x, ty, pos, aft, g⟩ (str p) := fun a ha => by
  simp only [execOp, ha.ev hx]
  rcases hrd with ⟨rfl, h0, rfl⟩ | ⟨b, off, rfl, hc⟩
  · obtain rfl : p = [] := by simpa [bytesL] using h0
    have := run_convert_bytes_nil (P := P) w T E ht he m 0 U hu
    simp [this]
    rfl
  · have := run_convert_bytes_arg (P := P) w T E ht he b off m c (p.map fun b => (b.toNat : Int)) (by simpa using hm) (fun i hi => by
      have hi' : i < p.length := by omega
      have h := hc i (.int .u8 (p[i].toNat : Int)) (by simp [bytesL, hi'])
      rw [h]
      simp [List.getD, hi']) U hu
    have e : strOfNums (p.map fun b => (b.toNat : Int)) = ⟨p.toArray⟩ := by
      simp [strOfNums, Function.comp_def]
    simp [this, e]

theorem y_max {x y : Operand} {tys : Array TypeId} {k : IntKind} {p q : Int} (hx : evO kn x = some (.int k p)) (hy : evO kn y = some (.int k q)) : Y P n kn w ⟨some d, .call ⟨.builtin .max, #[x, y], tys⟩, ty, pos, aft, g⟩ (.int k (max p q)) := fun a ha => by
  have e : (if q > p then q else p) = max p q := by rw [Int.max_def]; split <;> split <;> omega
  exact run_bi [.int k p, .int k q] (by simp [hx, hy]) (fun cs => by simp [builtin, Builtin.max_, Builtin.max2, e, go_sem]) ha

/-- make([]T, 0, c) -/
theorem e_mk0 (st : St w0 M hs w) {T E size c : Nat} {x y : Operand} {kl kc : IntKind} {z : Value} {ti : TypeInfo} (hw : gd L kn g = some true) (hd : okDst n (some d) = true)
    (hx : evO kn x = some (.int kl 0)) (hy : evO kn y = some (.int kc (c : Int)))
    (ht : P.underlying T = some (.slice E)) (hinfo : P.info? E = some ti) (hz : ti.zero = some z) (hsize : ti.size = size) (hcells : c * size ≤ 16777216) (hbytes : ti.bytes * c ≤ 281474976710656) (h63 : c ≤ maxLen)
    (next : ∀ b w', w0.heap.size ≤ b → St w0 M (.own (.slice (some ⟨b, 0, none⟩) 0 c) E size 0 [] :: hs) w' → vN n N ((d, .slice (some ⟨b, 0, none⟩) 0 c) :: kn) w') :
    vS P n L Q ⟨some d, .makeSlice T x y, ty, pos, aft, g⟩ N kn w := by
  obtain ⟨w', hr, ho, hg⟩ := run_makeSlice_owned (P := P) w w.heap.size T E ti z size ht hinfo hz hsize kl kc c hcells hbytes h63 (Nat.le_refl _)
  refine e_run hw hd (w' := w') (fun a ha => ?_) (next _ w' st.chg.size (st.pushOwn (Chg.of_grownBy_none hg) ho))
  simp only [execOp, ha.ev hx, ha.ev hy, Sem.run_bind, hr]
  rfl
end
end Sx
namespace Sx
open Go Go.RowKit
section
variable {w0 w : World} {M : List Nat} {hs : List Res}
def pickL {α : Type} (l : List α) : List Nat → Option (List α)
  | [] => some []
  | i :: is => match nth l i with | none => none | some x => match pickL l is with | none => none | some r => some (x :: r)
theorem apart_nth {hs : List Res} (h : Apart hs) : ∀ {i j : Nat} {r s : Res}, i ≠ j → nth hs i = some r → nth hs j = some s → ∀ k ∈ r.at?, k ∉ s.at? := by
  induction hs with
  | nil => intro i j r s _ h; simp [nth] at h
  | cons x xs ih =>
    intro i j r s hij hi hj k hk hk'
    have hp := List.pairwise_cons.1 h
    cases i with
    | zero =>
      cases j with
      | zero => exact hij rfl
      | succ j => simp [nth] at hi hj; subst hi; exact hp.1 s (mem_nth hj) k hk hk'
    | succ i =>
      cases j with
      | zero => simp [nth] at hi hj; subst hj; exact hp.1 r (mem_nth hi) k hk' hk
      | succ j => simp [nth] at hi hj; exact ih hp.2 (by omega) hi hj k hk hk'
theorem mem_pick {α : Type} {l : List α} : ∀ {is : List Nat} {r : List α}, pickL l is = some r → ∀ x ∈ r, ∃ i ∈ is, nth l i = some x
  | [], r, h, x, hx => by simp [pickL] at h; subst h; simp at hx
  | i :: is, r, h, x, hx => by
    simp only [pickL] at h
    split at h
    · cases h
    · rename_i y hy
      split at h
      · cases h
      · rename_i q hq
        cases h
        rcases List.mem_cons.1 hx with rfl | hx
        · exact ⟨i, .head _, hy⟩
        · obtain ⟨j, hj, hn⟩ := mem_pick hq x hx
          exact ⟨j, .tail _ hj, hn⟩
/-- some of what is held, in another order -/
theorem St.pick (st : St w0 M hs w) (is : List Nat) {hs' : List Res} (h : pickL hs is = some hs') (hn : is.Nodup) : St w0 M hs' w := by
  refine ⟨st.chg, ?_, fun r hr => ?_⟩
  · have hnd := st.nodup
    clear st
    induction is generalizing hs' with
    | nil => simp [pickL] at h; subst h; exact List.Pairwise.nil
    | cons i is ih =>
      simp only [pickL] at h
      split at h
      · cases h
      · rename_i y hy
        split at h
        · cases h
        · rename_i q hq
          cases h
          have hn' := List.nodup_cons.1 hn
          refine List.pairwise_cons.2 ⟨fun s hs k hk => ?_, ih hq hn'.2⟩
          obtain ⟨j, hj, hs⟩ := mem_pick hq s hs
          exact apart_nth hnd (fun e => hn'.1 (by subst e; exact hj)) hy hs k hk
  · obtain ⟨i, _, hi⟩ := mem_pick h r hr
    exact st.here r (mem_nth hi)
end
end Sx

/- The engine, sixteenth part: arrays that are values; arrays in memory; the neg of a number. -/
namespace Sx
open Go Go.RowKit
set_option linter.unusedVariables false
set_option linter.unusedSimpArgs false
section
variable {w0 w w' : World} {M : List Nat} {hs : List Res}
variable {P : Program} {n : Fr} {L : List Oper} {Q : Exit → Act → World → Prop} {kn : Kn} {N : Act → World → Prop}
variable {d ty : Nat} {pos : String} {aft : Array Edge} {g : Option (Nat × Bool)}

theorem y_neg {T : Nat} {x : Operand} {k : IntKind} {p r : Int} (hx : evO kn x = some (.int k p)) (hr : k.wrap (0 - p) = r) : Y P n kn w ⟨some d, .unOp .neg T x, ty, pos, aft, g⟩ (.int k r) := fun a ha => by
  subst hr
  simp only [execOp, ha.ev hx]
  simp [Op.unary, Op.intArith, go_sem]
theorem run_part1 {T off : Nat} {cs : List Value} {v : Value} (ha : ∀ w, (Go.isAgg T).run P w = .ok false w) (hv : nth cs off = some v) : (part T cs.toArray off).run P w = .ok v w := by
  rw [nth_eq] at hv
  unfold part
  simp [ha, hv]
theorem run_partA {T off sz : Nat} {cs vs : List Value} (ha : ∀ w, (Go.isAgg T).run P w = .ok true w) (hs : ∀ w, (Go.sizeOf T).run P w = .ok sz w) (hv : takeN sz (dropN cs off) = some vs) : (part T cs.toArray off).run P w = .ok (.agg vs.toArray) w := by
  obtain ⟨h1, h2⟩ := takeN_spec hv
  rw [dropN_eq] at h1
  unfold part
  simp [ha, hs, h1]
/-- a field of a struct that is a value -/
theorem y_fld {T i off : Nat} {x : Operand} {cs : List Value} {fs : Array Field} {f : Field} {v : Value} (hx : evO kn x = some (.agg cs.toArray)) (ht : P.underlying T = some (.struct fs)) (hf : nth fs.toList i = some f) (ho : f.offset = off)
    (ha : ∀ w, (Go.isAgg f.type).run P w = .ok false w) (hv : nth cs off = some v) : Y P n kn w ⟨some d, .field T x i, ty, pos, aft, g⟩ v := fun a hk => by
  subst ho
  rw [nth_eq] at hf
  have hf' : fs[i]? = some f := by simpa using hf
  simp only [execOp, hk.ev hx]
  simp [Instr.field, run_underlying ht, hf', asAgg, run_part1 ha hv]
/-- an element of an array that is a value -/
theorem y_ixa {T E i sz len : Nat} {x ix : Operand} {ik : IntKind} {ii : Int} {cs vs : List Value} (hx : evO kn x = some (.agg cs.toArray)) (hix : evO kn ix = some (.int ik ii)) (ht : P.underlying T = some (.array len E)) (hs : ∀ w, (Go.sizeOf E).run P w = .ok sz w)
    (hi : ii = (i : Int)) (hlt : Nat.blt i len = true) (ha : ∀ w, (Go.isAgg E).run P w = .ok true w) (hv : takeN sz (dropN cs (i * sz)) = some vs) : Y P n kn w ⟨some d, .index T x ix, ty, pos, aft, g⟩ (.agg vs.toArray) := fun a hk => by
  subst hi
  have h2 : (i : Int) < (len : Int) := by have : i < len := by simpa [Nat.blt_eq] using hlt
                                          omega
  simp only [execOp, hk.ev hx, hk.ev hix]
  simp [Instr.index, asIntOf, run_underlying ht, hs, h2, run_partA ha hs hv]
  intro; omega
/-- a[i:] of an array in memory -/
theorem y_sla {T E i sz len b off : Nat} {x lo : Operand} {ik : IntKind} {ii : Int} (hx : evO kn x = some (.pointer (some ⟨b, off, none⟩))) (hlo : evO kn lo = some (.int ik ii)) (ht : P.underlying T = some (.array len E))
    (hs : ∀ w, (Go.sizeOf E).run P w = .ok sz w) (hi : ii = (i : Int)) (hlt : i < len) : Y P n kn w ⟨some d, .slice T x (some lo) none none, ty, pos, aft, g⟩ (.slice (some ⟨b, off + i * sz, none⟩) (len - i) (len - i)) := fun a hk => by
  subst hi
  have h1 : i ≤ len := by omega
  have h2 : ¬ len = i := by omega
  simp only [execOp, Option.map_some, Option.map_none, hk.ev hx, hk.ev hlo]
  simp [Instr.sliceAt, Instr.sliceBounds, Instr.sliceBound, asIntOf, run_underlying ht, Instr.sureAddr, h1, h2, hs, addr_add]
/-- a store into a block that is known, at a place that is reckoned -/
theorem e_sta (st : St w0 M hs w) (i : Nat) {x y : Operand} {T b off E : Nat} {l l' : List Value} {v : Value} (hw : gd L kn g = some true) (hx : evO kn x = some (.pointer (some ⟨b, off, none⟩)))
    (hy : evO kn y = some v) (h1 : v.oneCell' = true) (hsz : ∀ w, (Go.sizeOf T).run P w = .ok 1 w)
    (hi : nth hs i = some (.blk b (.cells l.toArray E (0, 0)))) (hlt : off < l.length) (hl : l.set off v = l') (hm : b ∈ M ∨ w0.heap.size ≤ b)
    (next : ∀ w', St w0 M (setNth hs i (.blk b (.cells l'.toArray E (0, 0)))) w' → vN n N kn w') : vS P n L Q (⟨none, .store T x y, ty, pos, aft, g⟩) N kn w := by
  refine e_st st i hw hx hy h1 hsz hi (by simpa [Nat.blt_eq] using hlt) hm (fun w' st' => next w' ?_)
  rw [setNth_eq l off v, hl] at st'
  exact st'
end
end Sx

/- The engine, fourteenth part: arguments opened, and shut as they were. -/
namespace Sx
open Go Go.RowKit
set_option linter.unusedVariables false
set_option linter.unusedSimpArgs false

theorem exists_list {α : Type} (d : α) : ∀ (n : Nat) (P : Nat → α → Prop), (∀ i, i < n → ∃ x, P i x) → ∃ l : List α, l.length = n ∧ ∀ i, i < n → P i (l.getD i d)
  | 0, P, h => ⟨[], rfl, fun i hi => by omega⟩
  | n + 1, P, h => by
    obtain ⟨x, hx⟩ := h 0 (by omega)
    obtain ⟨l, hl, hP⟩ := exists_list d n (fun i => P (i + 1)) (fun i hi => h (i + 1) (by omega))
    refine ⟨x :: l, by simp [hl], fun i hi => ?_⟩
    cases i with
    | zero => simpa using hx
    | succ i => simpa using hP i (by omega)

section
variable {H : Type} {enc : TypeId × Value → H} {P : Program}

theorem trod_shut (hl : laidOutB P = true) {w w' : World} (hb : Below w.heap.size w w') {t : TypeId} {v : Value} {d : DataW H} {ps : List MemPlace} (hr : P.readableRec t = true) (ht : t < P.types.size)
    (h : DataW.Trod enc P w 0 (fun _ => true) true t v d ps) (hlt : ∀ x ∈ ps, x.block < w.heap.size) : DataW.Trod enc P w' 0 (fun b => decide (b < w.heap.size)) true t v d ps := by
  obtain ⟨fuel, hf⟩ := h
  exact ⟨fuel, DataW.trod_stays (kids_book hl hr) (book_sized hr) (fun h => by cases h) ⟨ht, book_self t⟩ hf (fun x hx => hb.same (hlt x hx)) (fun x hx => by simpa using hlt x hx)⟩

/-- all arguments read as they did, where nothing that was there has changed -/
theorem trodAll_shut (hl : laidOutB P = true) {w w' : World} (hb : Below w.heap.size w w') : ∀ {ts : List TypeId} {vs : List Value} {ds : List (DataW H)} {ps : List MemPlace}, (ts.all fun t => P.readableRec t && decide (t < P.types.size)) = true →
    DataW.TrodAll enc P w 0 (fun _ => true) true ts vs ds ps → (∀ x ∈ ps, x.block < w.heap.size) → DataW.TrodAll enc P w' 0 (fun b => decide (b < w.heap.size)) true ts vs ds ps
  | [], [], [], ps, _, h, _ => h
  | t :: ts, v :: vs, d :: ds, ps, hr, h, hlt => by
    obtain ⟨p, q, h1, h2, rfl⟩ := h
    simp only [List.all_cons, Bool.and_eq_true, decide_eq_true_eq] at hr
    exact ⟨p, q, trod_shut hl hb hr.1.1 hr.1.2 h1 (fun x hx => hlt x (List.mem_append.2 (.inl hx))), trodAll_shut hl hb (by simpa using hr.2) h2 (fun x hx => hlt x (List.mem_append.2 (.inr hx))), rfl⟩
  | [], [], _ :: _, _, _, h, _ => h.elim
  | [], _ :: _, _, _, _, h, _ => h.elim
  | _ :: _, [], _, _, _, h, _ => h.elim
  | _ :: _, _ :: _, [], _, _, h, _ => h.elim

theorem okWide_slice {w : World} {r : Reach} {b0 : Nat} {t e : TypeId} {v : Value} (ht : P.underlying t = some (.slice e)) (hval : Value.okWide P w r b0 t v) : ∃ oa len cap, v = .slice oa len cap ∧ (oa = none → len = 0 ∧ cap = 0) := by
  simp only [Value.okWide, ht, Cell.okWide, Cell.ok] at hval
  cases v <;> first | exact hval.elim | skip
  rename_i oa len cap
  refine ⟨oa, len, cap, rfl, fun h => ?_⟩
  subst h
  cases len <;> cases cap <;> first | exact ⟨rfl, rfl⟩ | exact hval.elim

/-- a slice of structs -/
theorem open_row {w : World} {fuel : Nat} {t e : TypeId} {sz : Nat} {v : Value} {d : DataW H} {ps : List MemPlace} (ht : P.underlying t = some (.slice e)) (hsz : P.cellsOf e = sz) (h0 : 0 < sz)
    (h : DataW.trod enc P w 0 (fun _ => true) true fuel t [v] = some (d, ps)) : ∃ (oa : Option Addr) (len cap n : Nat) (elems rest : List (DataW H)), v = .slice oa len cap ∧ elems.length = len ∧ len ≤ cap ∧ cap ≤ maxLen ∧ n < fuel ∧
      ((d = .nil ∧ len = 0 ∧ cap = 0 ∧ oa = none) ∨ d = .slice elems rest) ∧ (len = 0 ∨ ∃ b off, oa = some ⟨b, off, none⟩ ∧ ∀ j, j < len → ∃ cs pp dd, cs.length = sz ∧ elems[j]? = some dd ∧ DataW.trod enc P w 0 (fun _ => true) true n e cs = some (dd, pp) ∧
        ∀ i u, cs[i]? = some u → w.cell? ⟨b, off + j * sz + i, none⟩ = some u) := by
  rcases DataW.trod_slice ht h with ⟨hc, hx⟩ | ⟨a, len, cap, elems, rest, n, rfl, hc, hx, hb, hlc, hcm, hlen, hel, -⟩
  · simp only [List.cons.injEq, and_true] at hc
    subst hc
    simp only [Prod.mk.injEq] at hx
    have hf : 0 < fuel := by
      cases fuel with
      | zero => simp [DataW.trod] at h
      | succ m => omega
    exact ⟨none, 0, 0, 0, [], [], rfl, rfl, Nat.le_refl _, Nat.zero_le _, hf, .inl ⟨hx.1, rfl, rfl, rfl⟩, .inl rfl⟩
  · simp only [List.cons.injEq, and_true] at hc
    subst hc
    simp only [Prod.mk.injEq] at hx
    refine ⟨some a, len, cap, n, elems.map (·.1), rest.map (·.1), rfl, by simpa using hlen, hlc, hcm, by omega, .inr hx.1, ?_⟩
    rcases Nat.eq_zero_or_pos len with hl0 | hl0
    · exact .inl hl0
    right
    have each : ∀ j, j < len → ∃ cs pp dd, cs.length = sz ∧ (elems.map (·.1))[j]? = some dd ∧ DataW.trod enc P w 0 (fun _ => true) true n e cs = some (dd, pp) ∧ ∀ i u, cs[i]? = some u → w.cell? ((a.add (j * sz)).add i) = some u := by
      intro j hj
      have h1 := hel j hj
      rw [hsz, List.getElem?_eq_getElem (by omega : j < elems.length), Option.bind_eq_some_iff] at h1
      obtain ⟨cs, hcs, htr⟩ := h1
      obtain ⟨-, hcl, hcell⟩ := World.cells?_some hcs
      refine ⟨cs, elems[j].2, elems[j].1, hcl, by simp [List.getElem?_eq_getElem (by omega : j < elems.length)], htr, fun i u hi => ?_⟩
      have hlt : i < sz := by have := (List.getElem?_eq_some_iff.1 hi).1; omega
      rw [hcell i hlt, hi]
    obtain ⟨b, off, spot⟩ := a
    have hspot : spot = none := by
      obtain ⟨cs, pp, dd, hcl, -, -, hc⟩ := each 0 hl0
      have : 0 < cs.length := by omega
      have h2 := hc 0 cs[0] (by simp [this])
      rw [Nat.zero_mul, addr_add0, addr_add0] at h2
      exact World.cell?_spot h2
    subst hspot
    refine ⟨b, off, rfl, fun j hj => ?_⟩
    obtain ⟨cs, pp, dd, hcl, he, htr, hc⟩ := each j hj
    refine ⟨cs, pp, dd, hcl, he, htr, fun i u hi => ?_⟩
    have := hc i u hi
    rwa [addr_add, addr_add] at this
end
end Sx

namespace Go.Proofs.YtnmhlpnapgojjaaDoor
open Go.RowKit Sx LexS _root_.Go.Proofs.Tryd
set_option linter.unusedVariables false
set_option linter.unusedSimpArgs false
/-- the table of signs lies where the program has it -/
def Sig (w : World) : Prop := ∀ k, k < 19 → w.cell? ⟨0, k * 2, none⟩ = some (str (sgn k)) ∧ w.cell? ⟨0, k * 2 + 1, none⟩ = some (.int .i64 (lvl k))
theorem Sig.kept {w w' : World} (h : Sig w) (c : Chg [] w w') : Sig w' := fun k hk => ⟨c.cell (h k hk).1 (by simp), c.cell (h k hk).2 (by simp)⟩

theorem known_any (k : Int) (w : World) : Ret Tryd.prog 120 [.int .u8 k] w fun v w' => v = .bool (knownOp k) ∧ w' = w := by
 refine ret_of [_] func120 rfl ntmps120 rfl ?_
 have st := St.init w []
 refine vc_seq (vc_region ?_)
 refine vc_y rfl rfl (y_as rfl) ?_
 refine vc_end (vq_then (vc_keep [(0, _)] ⟨rfl, trivial⟩ (vc_seq (vc_region ?_))))
 refine vc_y rfl rfl (y_mv rfl) ?_
 refine vc_y rfl rfl (y_gtr rfl rfl) ?_
 refine vc_e (e_mvb rfl rfl rfl ?_ ?_)
 ·
  intro hg5
  try simp only [dn] at hg5
  refine vc_y rfl rfl (y_mv rfl) ?_
  refine vc_y rfl rfl (y_lss rfl rfl) ?_
  refine vc_y rfl rfl (y_pickt rfl rfl) ?_
  refine vc_y rfl rfl (y_as rfl) ?_
  refine vc_end (vq_then (vc_keep [(2, _)] ⟨rfl, trivial⟩ (vc_ret ?_)))
  refine vq_ret1 st (.inl rfl) results120 (.tmp rfl) ?_
  refine ⟨_, rfl, ?_⟩
  refine ⟨?_, rfl⟩
  congr 1
  unfold knownOp
  first | (rw [Bool.eq_iff_iff]; simp; omega) | (symm; simp; omega)
 ·
  intro hg5
  try simp only [dn] at hg5
  iterate 2 refine vc_e (e_skip rfl rfl ?_)
  refine vc_y rfl rfl (y_pickf rfl rfl) ?_
  refine vc_y rfl rfl (y_as rfl) ?_
  refine vc_end (vq_then (vc_keep [(2, _)] ⟨rfl, trivial⟩ (vc_ret ?_)))
  refine vq_ret1 st (.inl rfl) results120 (.tmp rfl) ?_
  refine ⟨_, rfl, ?_⟩
  refine ⟨?_, rfl⟩
  congr 1
  unfold knownOp
  first | (rw [Bool.eq_iff_iff]; simp; omega) | (symm; simp; omega)

theorem two_any (k : Int) (w : World) : Ret Tryd.prog 94 [.int .u8 k] w fun v w' => v = .bool (twoOp k) ∧ w' = w := by
 refine ret_of [_] func94 rfl ntmps94 rfl ?_
 have st := St.init w []
 refine vc_seq (vc_region ?_)
 refine vc_y rfl rfl (y_as rfl) ?_
 refine vc_end (vq_then (vc_keep [(0, _)] ⟨rfl, trivial⟩ (vc_seq (vc_region ?_))))
 refine vc_y rfl rfl (y_mv rfl) ?_
 refine vc_e (e_call [_] rfl rfl call120 rfl (known_any _ _) ?_)
 rintro _ _ ⟨rfl, rfl⟩
 refine vc_e (e_mvb rfl rfl rfl ?_ ?_)
 ·
  intro hg5
  try simp only [dn] at hg5
  refine vc_y rfl rfl (y_mv rfl) ?_
  refine vc_y rfl rfl (y_nei rfl rfl) ?_
  refine vc_y rfl rfl (y_pickt rfl rfl) ?_
  refine vc_e (e_mvb rfl rfl rfl ?_ ?_)
  ·
   intro hg9
   try simp only [dn] at hg9
   refine vc_y rfl rfl (y_mv rfl) ?_
   refine vc_y rfl rfl (y_nei rfl rfl) ?_
   refine vc_y rfl rfl (y_pickt rfl rfl) ?_
   refine vc_y rfl rfl (y_as rfl) ?_
   refine vc_end (vq_then (vc_keep [(2, _)] ⟨rfl, trivial⟩ (vc_ret ?_)))
   refine vq_ret1 st (.inl rfl) results94 (.tmp rfl) ?_
   refine ⟨_, rfl, ?_⟩
   refine ⟨?_, rfl⟩
   show Value.bool _ = Value.bool _
   congr 1
   unfold knownOp at *
   unfold twoOp
   simp only [decide_eq_true_eq, decide_eq_false_iff_not, Bool.not_eq_true', Bool.not_eq_false'] at *
   first | (symm; rw [decide_eq_false_iff_not]; omega) | (rw [Bool.eq_iff_iff]; simp only [Bool.not_eq_true', decide_eq_false_iff_not, decide_eq_true_eq]; omega)
  ·
   intro hg9
   try simp only [dn] at hg9
   iterate 2 refine vc_e (e_skip rfl rfl ?_)
   refine vc_y rfl rfl (y_pickf rfl rfl) ?_
   refine vc_y rfl rfl (y_as rfl) ?_
   refine vc_end (vq_then (vc_keep [(2, _)] ⟨rfl, trivial⟩ (vc_ret ?_)))
   refine vq_ret1 st (.inl rfl) results94 (.tmp rfl) ?_
   refine ⟨_, rfl, ?_⟩
   refine ⟨?_, rfl⟩
   show Value.bool _ = Value.bool _
   congr 1
   unfold knownOp at *
   unfold twoOp
   simp only [decide_eq_true_eq, decide_eq_false_iff_not, Bool.not_eq_true', Bool.not_eq_false'] at *
   first | (symm; rw [decide_eq_false_iff_not]; omega) | (rw [Bool.eq_iff_iff]; simp only [Bool.not_eq_true', decide_eq_false_iff_not, decide_eq_true_eq]; omega)
 ·
  intro hg5
  try simp only [dn] at hg5
  iterate 2 refine vc_e (e_skip rfl rfl ?_)
  refine vc_y rfl rfl (y_pickf rfl rfl) ?_
  refine vc_y rfl rfl (y_mv rfl) ?_
  iterate 2 refine vc_e (e_skip rfl rfl ?_)
  refine vc_y rfl rfl (y_pickf rfl rfl) ?_
  refine vc_y rfl rfl (y_as rfl) ?_
  refine vc_end (vq_then (vc_keep [(2, _)] ⟨rfl, trivial⟩ (vc_ret ?_)))
  refine vq_ret1 st (.inl rfl) results94 (.tmp rfl) ?_
  refine ⟨_, rfl, ?_⟩
  refine ⟨?_, rfl⟩
  show Value.bool _ = Value.bool _
  congr 1
  unfold knownOp at *
  unfold twoOp
  simp only [decide_eq_true_eq, decide_eq_false_iff_not, Bool.not_eq_true', Bool.not_eq_false'] at *
  first | (symm; rw [decide_eq_false_iff_not]; omega) | (rw [Bool.eq_iff_iff]; simp only [Bool.not_eq_true', decide_eq_false_iff_not, decide_eq_true_eq]; omega)

theorem show_any (k : Int) (w : World) (hs : Sig w) : Ret Tryd.prog 97 [.int .u8 k] w fun v w' => v = str (if knownOp k = true then sgn k.toNat else []) ∧ w' = w := by
 refine ret_of [_] func97 rfl ntmps97 rfl ?_
 have st := St.init w []
 refine vc_seq (vc_region ?_)
 refine vc_y rfl rfl (y_as rfl) ?_
 refine vc_end (vq_then (vc_keep [(0, _)] ⟨rfl, trivial⟩ (vc_seq (vc_seq (vc_region ?_)))))
 refine vc_y rfl rfl (y_mv rfl) ?_
 refine vc_e (e_call [_] rfl rfl call120 rfl (known_any _ _) ?_)
 rintro _ _ ⟨rfl, rfl⟩
 refine vc_y rfl rfl (y_not rfl) ?_
 refine vc_end (vq_then (vc_keep [(0, _), (5, _)] ⟨rfl, rfl, trivial⟩ ?_))
 refine vc_ifs rfl ?_ ?_
 ·
  intro hc5
  try simp only [dn] at hc5
  refine vc_seq (vc_region ?_)
  refine vc_y rfl rfl (y_as rfl) ?_
  refine vc_end (vq_then (vc_keep [(2, _)] ⟨rfl, trivial⟩ (vc_ret (vq_then_ret ?_))))
  refine vq_ret1 st (.inl rfl) results97 (.tmp rfl) ?_
  refine ⟨_, rfl, ?_⟩
  refine ⟨?_, rfl⟩
  rw [if_neg (by simpa using hc5)]
 ·
  intro hc5
  try simp only [dn] at hc5
  have hk : 0 < k ∧ k < 19 := by simpa [knownOp] using hc5
  obtain ⟨m, rfl⟩ : ∃ m : Nat, k = (m : Int) := ⟨k.toNat, by omega⟩
  refine vc_code_skip (vq_then (vc_keep [(0, _)] ⟨rfl, trivial⟩ (vc_seq (vc_region ?_))))
  refine vc_y rfl rfl (y_mv rfl) ?_
  refine vc_y rfl rfl (y_iaa (k := m) rfl rfl underlying152 sizeOf151 rfl (by omega)) ?_
  refine vc_y rfl rfl (y_fa0 rfl underlying151 rfl rfl sizeOf9 rfl) ?_
  refine vc_y rfl rfl ((by exact y_ldc rfl isAgg9 (by have h := (hs m (by omega)).1; rw [Nat.zero_add]; exact h))) ?_
  refine vc_y rfl rfl (y_as rfl) ?_
  refine vc_end (vq_then (vc_keep [(2, _)] ⟨rfl, trivial⟩ (vc_ret ?_)))
  refine vq_ret1 st (.inl rfl) results97 (.tmp rfl) ?_
  refine ⟨_, rfl, ?_⟩
  refine ⟨?_, rfl⟩
  rw [if_pos (by simpa using hc5)]
  rfl

abbrev zs (k : Nat) : List Value := List.replicate k (.int .u8 0)
theorem zs_set (k : Nat) (t : List UInt8) (c : UInt8) (x : Int) (hx : (c.toNat : Int) = x) (hk : 0 < k) : (zs k ++ bytesL t).set (k - 1) (.int .u8 x) = zs (k - 1) ++ bytesL (c :: t) := by
 obtain ⟨m, rfl⟩ : ∃ m, k = m + 1 := ⟨k - 1, by omega⟩
 have e : zs (m + 1) = zs m ++ [.int .u8 0] := by simp [zs, List.replicate_succ']
 rw [e, Nat.add_sub_cancel, List.append_assoc, List.set_append_right _ _ (by simp)]
 subst hx
 simp
theorem zs_len (k : Nat) (t : List UInt8) : (zs k ++ bytesL t).length = k + t.length := by simp
theorem blk_rd {w : World} {b k E : Nat} {t : List UInt8} {c : Nat} (h : w.heap[b]? = some (.cells (zs k ++ bytesL t).toArray E (0, 0))) : RdRowP w (some ⟨b, 0 + k * 1, none⟩) c (bytesL t) :=
 .inr ⟨b, 0 + k * 1, rfl, fun j u hj => cell_blk h (by
   rw [nth_eq, List.getElem?_append_right (by simp)]
   simpa [show 0 + k * 1 + j - k = j by omega] using hj)⟩

set_option maxHeartbeats 1000000 in
theorem wprint_any (x : Int) (w : World) (hx : -9223372036854775808 ≤ x ∧ x ≤ 9223372036854775807) : Ret Tryd.prog 48 [.int .i64 x] w fun v w' => v = str (shw x) ∧ Chg [] w w' := by
 refine ret_of [_] func48 rfl ntmps48 rfl ?_
 have st := St.init w []
 obtain ⟨w0, rfl⟩ : ∃ w0, w0 = w := ⟨_, rfl⟩
 have hdl := dec_len 18 x.natAbs (by simp only [Nat.reducePow, Nat.reduceAdd]; omega)
 refine vc_seq (vc_region ?_)
 refine vc_y rfl rfl (y_as rfl) ?_
 refine vc_end (vq_then (vc_keep [(0, _)] ⟨rfl, trivial⟩ (vc_seq (vc_region ?_))))
 refine vc_e (e_al (l := [_, _, _, _, _, _, _, _, _, _, _, _, _, _, _, _, _, _, _, _]) st rfl rfl zeroValue108 rfl ?_)
 intro b3 w hb3 st
 refine vc_end (vq_then (vc_keep [(0, _), (3, _)] ⟨rfl, rfl, trivial⟩ (vc_seq (vc_region ?_))))
 refine vc_y rfl rfl (y_as rfl) ?_
 refine vc_end (vq_then (vc_keep [(0, _), (3, _), (4, _)] ⟨rfl, rfl, rfl, trivial⟩ (vc_seq (vc_region ?_))))
 refine vc_y rfl rfl (y_mv rfl) ?_
 refine vc_y rfl rfl (y_cvi rfl underlying109 underlying2 (rfl : _ = IntKind.u64.wrap x)) ?_
 refine vc_y rfl rfl (y_as rfl) ?_
 refine vc_end (vq_then (vc_keep [(0, _), (3, _), (4, _), (5, _)] ⟨rfl, rfl, rfl, rfl, trivial⟩ ?_))
 refine vc_cut (w0 := w0) (M := []) (fun (_ : Unit) => [(0, .int .i64 x), (3, .pointer (some ⟨b3, 0, none⟩)), (4, .int .i64 20), (5, .int .u64 (x.natAbs : Int))]) (fun _ => [.blk b3 (.cells (zs 20 ++ bytesL []).toArray 108 (0, 0))]) (fun _ _ => True) ?_ ?_
 ·
  refine vc_seq (vc_region ?_)
  refine vc_y rfl rfl (y_mv rfl) ?_
  refine vc_y rfl rfl (y_lss rfl rfl) ?_
  refine vc_end (vq_then (vc_keep [(0, _), (3, _), (4, _), (5, _), (9, _)] ⟨rfl, rfl, rfl, rfl, rfl, trivial⟩ ?_))
  refine vc_ifs rfl ?_ ?_
  ·
   intro hc9
   try simp only [dn] at hc9
   refine vc_region ?_
   refine vc_y rfl rfl (y_mv rfl) ?_
   refine vc_y rfl rfl (y_neg rfl (by rw [wrap_u64, wrap_u64]; omega : _ = (x.natAbs : Int))) ?_
   refine vc_y rfl rfl (y_as rfl) ?_
   refine vc_end ?_
   exact vq_meet () ⟨rfl, rfl, rfl, rfl, trivial⟩ st trivial
  ·
   intro hc9
   try simp only [dn] at hc9
   refine vc_code_skip ?_
   exact vq_meet () ⟨rfl, rfl, rfl, by simp only [find, Nat.beq]; congr 2; rw [wrap_u64]; omega, trivial⟩ st trivial
 ·
  clear st
  rintro ⟨⟩ w - st
  refine vc_seq (vc_block ?_)
  refine vc_loop (w0 := _) (M := _) (fun (y : Nat × Nat × List UInt8) => [(0, .int .i64 x), (3, .pointer (some ⟨b3, 0, none⟩)), (4, .int .i64 (y.1 : Int)), (5, .int .u64 (y.2.1 : Int))]) (fun y => [.blk b3 (.cells (zs y.1 ++ bytesL y.2.2).toArray 108 (0, 0))]) (fun y _ => y.1 + y.2.2.length = 20 ∧ dec y.2.1 ++ y.2.2 = dec x.natAbs ∧ y.2.1 ≤ x.natAbs) (fun y => y.1) (20, x.natAbs, []) ⟨rfl, rfl, rfl, rfl, trivial⟩ st ⟨rfl, by simp, by simp⟩ ?_
  rintro ⟨at_, n, t⟩ w ⟨hat, hdec, hnx⟩ st
  dsimp only at *
  have hdp := dec_pos n
  have hlen := congrArg List.length hdec
  rw [List.length_append] at hlen
  obtain ⟨hdg1, hdg2⟩ := digit_of (Nat.mod_lt n (by omega : 0 < 10))
  refine vc_block (vc_seq (vc_region ?_))
  refine vc_y rfl rfl (y_mv rfl) ?_
  refine vc_y rfl rfl (y_sub rfl rfl (by omega : _ = ((at_ - 1 : Nat) : Int)) (by omega) (by omega)) ?_
  refine vc_y rfl rfl (y_as rfl) ?_
  refine vc_end (vq_then (vc_keep [(0, _), (3, _), (4, _), (5, _)] ⟨rfl, rfl, rfl, rfl, trivial⟩ (vc_seq (vc_region ?_))))
  iterate 2 refine vc_y rfl rfl (y_mv rfl) ?_
  refine vc_y rfl rfl (y_remk rfl rfl (by omega) (by omega) (by omega : _ = ((n % 10 : Nat) : Int))) ?_
  refine vc_y rfl rfl (y_addk rfl rfl (by rw [wrap_u64]; omega : _ = ((48 + n % 10 : Nat) : Int))) ?_
  refine vc_y rfl rfl (y_cvi rfl underlying5 underlying109 (by rw [wrap_u8]; omega : _ = ((48 + n % 10 : Nat) : Int))) ?_
  refine vc_y rfl rfl (y_iaa (k := (at_ - 1)) rfl rfl underlying108 sizeOf5 rfl (by omega)) ?_
  refine vc_e (e_sta (l' := zs (at_ - 1) ++ bytesL (UInt8.ofNat (48 + n % 10) :: t)) st 0 rfl rfl rfl rfl sizeOf5 rfl (by rw [zs_len]; omega) (by rw [show 0 + (at_ - 1) * 1 = at_ - 1 by omega]; exact zs_set at_ t (UInt8.ofNat (48 + n % 10)) _ (by rw [hdg2]) (by omega)) (.inr hb3) ?_)
  intro w st; dsimp only [setNth] at st
  refine vc_end (vq_then (vc_keep [(0, _), (3, _), (4, _), (5, _)] ⟨rfl, rfl, rfl, rfl, trivial⟩ (vc_seq (vc_region ?_))))
  refine vc_y rfl rfl (y_mv rfl) ?_
  refine vc_y rfl rfl (y_quok rfl rfl (by omega) (by omega) (by rw [wrap_u64]; omega : _ = ((n / 10 : Nat) : Int))) ?_
  refine vc_y rfl rfl (y_as rfl) ?_
  refine vc_end (vq_then (vc_keep [(0, _), (3, _), (4, _), (5, _)] ⟨rfl, rfl, rfl, rfl, trivial⟩ (vc_seq (vc_region ?_))))
  refine vc_y rfl rfl (y_mv rfl) ?_
  refine vc_y rfl rfl (y_eqi rfl rfl) ?_
  refine vc_end (vq_then (vc_keep [(0, _), (3, _), (4, _), (5, _), (23, _)] ⟨rfl, rfl, rfl, rfl, rfl, trivial⟩ ?_))
  refine vc_ifs rfl ?_ ?_
  ·
   intro hc23
   try simp only [dn] at hc23
   have hn : n < 10 := by omega
   have hfin : UInt8.ofNat (48 + n % 10) :: t = dec x.natAbs := by rw [← hdec, dec_small hn, Nat.mod_eq_of_lt hn]; rfl
   rw [hfin] at st
   have hlen2 := congrArg List.length hfin
   simp only [List.length_cons] at hlen2
   refine vc_exit (vq_block_other rfl (vq_then_exit (vq_block_exit (vq_then (vc_keep [(0, _), (3, _), (4, _)] ⟨rfl, rfl, rfl, trivial⟩ (vc_seq (vc_seq (vc_region ?_))))))))
   refine vc_y rfl rfl (y_mv rfl) ?_
   refine vc_y rfl rfl (y_lss rfl rfl) ?_
   refine vc_end (vq_then (vc_keep [(3, _), (4, _), (25, _)] ⟨rfl, rfl, rfl, trivial⟩ ?_))
   refine vc_ifs rfl ?_ ?_
   ·
    intro hc25
    try simp only [dn] at hc25
    refine vc_seq (vc_region ?_)
    refine vc_y rfl rfl (y_mv rfl) ?_
    refine vc_y rfl rfl (y_sub rfl rfl (by omega : _ = ((at_ - 2 : Nat) : Int)) (by omega) (by omega)) ?_
    refine vc_y rfl rfl (y_as rfl) ?_
    refine vc_end (vq_then (vc_keep [(3, _), (4, _)] ⟨rfl, rfl, trivial⟩ (vc_region ?_)))
    refine vc_y rfl rfl (y_mv rfl) ?_
    refine vc_y rfl rfl (y_iaa (k := (at_ - 2)) rfl rfl underlying108 sizeOf5 rfl (by omega)) ?_
    refine vc_e (e_sta (l' := zs (at_ - 2) ++ bytesL (45 :: dec x.natAbs)) st 0 rfl rfl rfl rfl sizeOf5 rfl (by rw [zs_len]; omega) (by rw [show 0 + (at_ - 2) * 1 = (at_ - 1) - 1 by omega]; have := zs_set (at_ - 1) (dec x.natAbs) 45 45 (by rfl) (by omega); rw [show at_ - 1 - 1 = at_ - 2 by omega] at this ⊢; exact this) (.inr hb3) ?_)
    intro w st; dsimp only [setNth] at st
    refine vc_end (vq_then (vc_keep [(3, _), (4, _)] ⟨rfl, rfl, trivial⟩ (vc_seq (vc_region ?_))))
    refine vc_y rfl rfl (y_mv rfl) ?_
    refine vc_y rfl rfl (y_sla (i := _) rfl rfl underlying108 sizeOf5 rfl (by omega)) ?_
    refine vc_y rfl rfl (y_b2s rfl (blk_rd (st.res (i := 0) rfl)) (by first | (simp only [List.length_cons]; omega) | omega) underlying45 underlying5 underlying9) ?_
    refine vc_y rfl rfl (y_as rfl) ?_
    refine vc_end (vq_then (vc_keep [(2, _)] ⟨rfl, trivial⟩ (vc_ret ?_)))
    refine vq_ret1 st (.inl rfl) results48 (.tmp rfl) ?_
    refine ⟨_, rfl, ?_⟩
    refine ⟨?_, st.chg⟩
    unfold shw
    rw [if_pos (by omega)]
   ·
    intro hc25
    try simp only [dn] at hc25
    refine vc_code_skip (vq_then (vc_keep [(3, _), (4, _)] ⟨rfl, rfl, trivial⟩ (vc_seq (vc_region ?_))))
    refine vc_y rfl rfl (y_mv rfl) ?_
    refine vc_y rfl rfl (y_sla (i := _) rfl rfl underlying108 sizeOf5 rfl (by omega)) ?_
    refine vc_y rfl rfl (y_b2s rfl (blk_rd (st.res (i := 0) rfl)) (by first | (simp only [List.length_cons]; omega) | omega) underlying45 underlying5 underlying9) ?_
    refine vc_y rfl rfl (y_as rfl) ?_
    refine vc_end (vq_then (vc_keep [(2, _)] ⟨rfl, trivial⟩ (vc_ret ?_)))
    refine vq_ret1 st (.inl rfl) results48 (.tmp rfl) ?_
    refine ⟨_, rfl, ?_⟩
    refine ⟨?_, st.chg⟩
    unfold shw
    rw [if_neg (by omega)]
  ·
   intro hc23
   try simp only [dn] at hc23
   refine vc_code_skip (vq_block ?_)
   refine vq_again (at_ - 1, n / 10, UInt8.ofNat (48 + n % 10) :: t)  ⟨rfl, rfl, rfl, rfl, trivial⟩ st ?_ ?_
   ·
    refine ⟨by simp; omega, ?_, by dsimp only; omega⟩
    dsimp only
    rw [← hdec, dec_big (n := n) (by omega)]; simp
   ·
    dsimp only; omega

end Go.Proofs.YtnmhlpnapgojjaaDoor

/- The engine, eighth part: a statement whose order is drawn, two operations at a time. -/
namespace Sx
open Go Go.RowKit
set_option linter.unusedVariables false
set_option linter.unusedSimpArgs false

inductive Pl where
  | done
  | take (i : Nat) (r : Pl)
  | one (i : Nat) (r : Pl)
  | two (i j : Nat) (r s : Pl)

def Pl.len : Pl → Nat
  | .done => 0
  | .take _ r => r.len + 1
  | .one _ r => r.len + 1
  | .two _ _ r _ => r.len + 1

def plOK (L : Array Oper) : Pl → Array Bool → Bool
  | .done, listed => (Region.ready .any L listed).isEmpty
  | .take i r, listed => (Region.ready .any L listed).contains i && Region.free .any L listed i && plOK L r (listed.setIfInBounds i true)
  | .one i r, listed => (Region.ready .any L listed == [i]) && plOK L r (listed.setIfInBounds i true)
  | .two i j r s, listed => (Region.ready .any L listed == [i, j]) && (r.len == s.len) && plOK L r (listed.setIfInBounds i true) && plOK L s (listed.setIfInBounds j true)

section
variable {P : Program} {n : Fr} {L : List Oper} {Q : Exit → Act → World → Prop} {kn : Kn} {w : World} {S : World → Prop}

def vD (P : Program) (n : Fr) (L : List Oper) (Q : Exit → Act → World → Prop) (S : World → Prop) (plan : Pl) (kn : Kn) (w : World) : Prop :=
  ∀ a listed, okQ Q → Region.noSelect L.toArray = true → K n kn a → plOK L.toArray plan listed = true → wpAnyH P .any L.toArray Q S plan.len listed a w

def ND (P : Program) (L : List Oper) (Q : Exit → Act → World → Prop) (S : World → Prop) (plan : Pl) (a : Act) (w : World) : Prop :=
  S w ∧ (okQ Q → Region.noSelect L.toArray = true → ∀ listed, plOK L.toArray plan listed = true → wpAnyH P .any L.toArray Q S plan.len listed a w)

theorem vd_next {plan : Pl} (hS : S w) (h : S w → vD P n L Q S plan kn w) : vN n (ND P L Q S plan) kn w := fun a ha => ⟨hS, fun hQ hsel listed hl => h hS a listed hQ hsel ha hl⟩

theorem vd_end (h : vcQ n Q .normal kn w) : vD P n L Q S .done kn w := fun a listed hQ hsel ha hl => by
  simp only [plOK, List.isEmpty_iff] at hl
  exact ⟨hl, h a ha⟩

theorem vd_take {i : Nat} {o : Oper} {v : Value} {r : Pl} (hi : nth L i = some o) (hw : gd L kn o.guard = some true) (hd : okDst n o.dst = true)
    (hS : S w) (y : ∀ w', S w' → Y P n kn w' o v) (next : vD P n L Q S r (put o.dst v kn) w) : vD P n L Q S (.take i r) kn w := by
  intro a listed hQ hsel ha hl
  simp only [plOK, Bool.and_eq_true] at hl
  rw [nth_eq] at hi
  exact wpAnyH_take (oi := o) (v := v) (by simpa using hi) hsel hl.1.2 hl.1.1 (fun c a w h => hQ c _ _ w (put_defers _ _ _) h)
    (.inl ⟨ha.gd hw, fun w' hS' => y w' hS' a ha⟩) hS (next _ _ hQ hsel (ha.put hd v) hl.2)

theorem vd_skip {i : Nat} {o : Oper} {r : Pl} (hi : nth L i = some o) (hw : gd L kn o.guard = some false) (hd : okDst n o.dst = true)
    (hS : S w) (next : vD P n L Q S r (put o.dst undef kn) w) : vD P n L Q S (.take i r) kn w := by
  intro a listed hQ hsel ha hl
  simp only [plOK, Bool.and_eq_true] at hl
  rw [nth_eq] at hi
  exact wpAnyH_take (oi := o) (v := undef) (by simpa using hi) hsel hl.1.2 hl.1.1 (fun c a w h => hQ c _ _ w (put_defers _ _ _) h)
    (.inr ⟨ha.gd hw, rfl⟩) hS (next _ _ hQ hsel (ha.put hd undef) hl.2)

theorem vd_part {i d ty : Nat} {pos : String} {aft : Array Edge} {g : Option (Nat × Bool)} {x : Operand} {b : Bool} {r : Pl} 
    (hi : nth L i = some ⟨some d, .move x, ty, pos, aft, g⟩) (hw : gd L kn g = some true) (hd : okDst n (some d) = true) (hS : S w) (hx : evO kn x = some (.bool b))
    (h1 : b = true → vD P n L Q S r ((d, .bool true) :: kn) w) (h2 : b = false → vD P n L Q S r ((d, .bool false) :: kn) w) : vD P n L Q S (.take i r) kn w := by
  refine vd_take hi hw hd hS (fun w' _ => y_mv hx) ?_
  cases b
  · exact h2 rfl
  · exact h1 rfl

theorem nd_op {i : Nat} {o : Oper} {r : Pl} {a : Act} {listed : Array Bool} (hi : nth L i = some o) (e : vS P n L Q o (ND P L Q S r) kn w) (ha : K n kn a) (hQ : okQ Q) (hsel : Region.noSelect L.toArray = true)
    (hl : plOK L.toArray r (listed.setIfInBounds i true) = true) : wpOp P L.toArray Q i (fun a' w' => S w' ∧ wpAnyH P .any L.toArray Q S r.len (listed.setIfInBounds i true) a' w') a w := by
  rw [nth_eq] at hi
  have he := e a ha
  unfold wpOp
  simp only [List.getElem?_toArray, hi]
  split
  · rename_i hw
    rw [if_pos hw] at he
    exact he.imp (Oper.wp_mono (fun a' w' h => ⟨h.1, h.2 hQ hsel _ hl⟩)) id
  · rename_i hw
    rw [if_neg hw] at he
    exact ⟨he.1, he.2 hQ hsel _ hl⟩

theorem vd_do {i : Nat} {o : Oper} {r : Pl} (hi : nth L i = some o) (e : vS P n L Q o (ND P L Q S r) kn w) : vD P n L Q S (.one i r) kn w := by
  intro a listed hQ hsel ha hl
  simp only [plOK, Bool.and_eq_true, beq_iff_eq] at hl
  refine wpAnyH_all hl.1 (by simp) (fun j hj => ?_)
  obtain rfl : j = i := by simpa using hj
  exact nd_op hi e ha hQ hsel hl.2

theorem vd_two {i j : Nat} {o p : Oper} {r s : Pl} (hi : nth L i = some o) (hj : nth L j = some p) (e : vS P n L Q o (ND P L Q S r) kn w) (f : vS P n L Q p (ND P L Q S s) kn w) : vD P n L Q S (.two i j r s) kn w := by
  intro a listed hQ hsel ha hl
  simp only [plOK, Bool.and_eq_true, beq_iff_eq] at hl
  obtain ⟨⟨⟨h1, h2⟩, h3⟩, h4⟩ := hl
  refine wpAnyH_all h1 (by simp) (fun k hk => ?_)
  have hk' : k = i ∨ k = j := by simpa using hk
  rcases hk' with rfl | rfl
  · exact nd_op hi e ha hQ hsel h3
  · rw [h2]; exact nd_op hj f ha hQ hsel h4

theorem vd_draw {id : Nat} (hm : P.follows .mixedOrders = true) (plan : Pl) (S : World → Prop) (hS0 : S w) (hsel : Region.noSelect L.toArray = true) (hQ : okQ Q) (hlen : plan.len = L.length) (hplan : plOK L.toArray plan (Array.replicate L.length false) = true)
    (h : ∀ w', Chg [] w w' → vD P n L Q S plan kn w') : vcC P n (.region id L.toArray true) Q kn w := by
  intro a ha
  refine wp_region_held (S := S) hm ?_
  have := h w.drew (Chg.drew w) a (Array.replicate L.length false) hQ hsel ha hplan
  rw [hlen] at this
  rw [List.size_toArray]
  exact this
end
end Sx
