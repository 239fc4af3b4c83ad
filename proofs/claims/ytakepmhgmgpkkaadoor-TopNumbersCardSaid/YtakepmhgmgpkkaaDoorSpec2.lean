/- Blanks and remarks between tokens: no program in sight. -/
import Derived.Test.YtakepmhgmgpkkaaDoorSpec
namespace LexS
set_option linter.unusedVariables false
set_option linter.unusedSimpArgs false

theorem blank_not {y : UInt8} (h : isBlank y = true) : isIdent y = false ∧ isDigit y = false ∧ isLetter y = false ∧ y ≠ 47 ∧ ∀ c, isSign2 [c, y] = false := by
  have hy : y.toNat = 32 ∨ y.toNat = 9 ∨ y.toNat = 10 ∨ y.toNat = 13 := by simpa [isBlank] using h
  have hl : isLetter y = false := by simp only [isLetter, decide_eq_false_iff_not]; omega
  have hd : isDigit y = false := by simp only [isDigit, decide_eq_false_iff_not]; omega
  refine ⟨by simp [isIdent, hl, hd], hd, hl, ?_, fun c => ?_⟩
  · rintro rfl; simp at hy
  · simp only [isSign2, decide_eq_false_iff_not, List.cons.injEq, and_true]
    rintro (⟨_, rfl⟩ | ⟨_, rfl⟩ | ⟨_, rfl⟩ | ⟨_, rfl⟩ | ⟨_, rfl⟩ | ⟨_, rfl⟩) <;> simp at hy

theorem tw_app {p : UInt8 → Bool} {y : UInt8} {Z : List UInt8} (hy : p y = false) : ∀ (q : List UInt8) (m : Nat), (q.takeWhile p).length ≤ m → (q.take m ++ y :: Z).takeWhile p = q.takeWhile p
  | [], m, _ => by simp [hy]
  | c :: q, m, h => by
    rw [List.takeWhile_cons] at h ⊢
    split at h
    · rename_i hc
      cases m with
      | zero => simp at h
      | succ m =>
        rw [List.take_succ_cons, List.cons_append, List.takeWhile_cons, if_pos hc, if_pos hc, tw_app hy q m (by simpa using h)]
    · rename_i hc
      rw [if_neg hc]
      cases m with
      | zero => simp [hy]
      | succ m => rw [List.take_succ_cons, List.cons_append, List.takeWhile_cons, if_neg hc]

/-- a token stays if a blank is put behind it -/
theorem tokAt_app {q : List UInt8} {i m : Nat} {t : Tok} {y : UInt8} {Z : List UInt8} (h : tokAt q i = .tok t) (hm : t.text.length ≤ m) (hy : isBlank y = true) : tokAt (q.take m ++ y :: Z) i = .tok t := by
  obtain ⟨b1, b2, b3, b4, b5⟩ := blank_not hy
  have hl := tok_len h
  match q, h with
  | [], h => simp [tokAt] at h
  | c :: r, h =>
    cases m with
    | zero => omega
    | succ m =>
      rw [List.take_succ_cons, List.cons_append]
      simp only [tokAt] at h ⊢
      have ei : ∀ p : UInt8 → Bool, p y = false → ((c :: r).takeWhile p).length ≤ m + 1 → (c :: (r.take m ++ y :: Z)).takeWhile p = (c :: r).takeWhile p := fun p hp hlen => by
        have := tw_app (Z := Z) hp (c :: r) (m + 1) hlen
        rwa [List.take_succ_cons, List.cons_append] at this
      split at h
      · rename_i hc
        simp only [hc, if_true]
        split at h
        · rename_i hw
          cases h
          rw [ei _ b1 hm, if_pos hw]
        · rename_i hw
          split at h
          · cases h
          · rename_i hlen
            cases h
            rw [ei _ b1 hm, if_neg hw, if_neg hlen]
      · rename_i hc
        simp only [hc, Bool.false_eq_true, if_false]
        split at h
        · rename_i hd
          simp only [hd, if_true]
          split at h
          · cases h
          · rename_i hn
            have hT : t.text = (c :: r).takeWhile isDigit := by
              split at h
              · split at h
                · cases h
                · cases h; rfl
              · cases h; rfl
            rw [hT] at hm
            rw [ei _ b2 hm, if_neg hn]
            have hpos : ∃ n, ((c :: r).takeWhile isDigit).length = n + 1 := by rw [List.takeWhile_cons, if_pos hd]; exact ⟨_, List.length_cons⟩
            obtain ⟨n, hn'⟩ := hpos
            rw [hn'] at h hm ⊢
            simp only [List.drop_succ_cons] at h ⊢
            have key : (r.take m ++ y :: Z).drop n = (r.drop n).take (m - n) ++ y :: Z := by
              rw [List.drop_append, List.drop_take]
              by_cases hnr : n ≤ (r.take m).length
              · rw [show n - (r.take m).length = 0 by omega, List.drop_zero]
              · exfalso
                have h1 : ((c :: r).takeWhile isDigit).length ≤ (c :: r).length := by
                  have h := List.takeWhile_append_dropWhile (p := isDigit) (l := c :: r)
                  have h2 := congrArg List.length h
                  simp only [List.length_append] at h2; omega
                simp at hnr h1
                omega
            rw [key]
            cases hdr : r.drop n with
            | nil => rw [hdr] at h; simp only [List.take_nil, List.nil_append, b3, Bool.false_eq_true, if_false]; exact h
            | cons d r' =>
              rw [hdr] at h
              cases hmn : m - n with
              | zero =>
                simp only [List.take_zero, List.nil_append, b3, Bool.false_eq_true, if_false]
                cases hdl : isLetter d with
                | true => simp [hdl] at h
                | false => simp only [hdl, Bool.false_eq_true, if_false] at h; exact h
              | succ k => rw [List.take_succ_cons, List.cons_append]; exact h
        · rename_i hd
          simp only [hd, Bool.false_eq_true, if_false]
          split at h
          · rename_i hs
            cases h
            have h2 : ((c :: r).take 2).length = 2 := by
              simp only [isSign2, decide_eq_true_eq] at hs
              rcases hs with h | h | h | h | h | h <;> rw [h] <;> rfl
            rw [h2] at hm
            cases m with
            | zero => omega
            | succ m =>
              match r, h2 with
              | [], h2 => simp at h2
              | b :: r, _ =>
                simp only [List.take_succ_cons, List.take_zero, List.cons_append] at hs ⊢
                simp only [hs, if_true]
          · rename_i hs
            have hs' : isSign2 ((c :: (r.take m ++ y :: Z)).take 2) = false := by
              cases m with
              | zero => simpa using b5 c
              | succ m =>
                match r with
                | [] => simpa using b5 c
                | b :: r => simpa using hs
            rw [if_neg (by rw [hs']; simp)]
            exact h

theorem toLf_app : ∀ (q : List UInt8) (m : Nat) (Z : List UInt8), toLf q < m → m ≤ q.length → toLf (q.take m ++ Z) = toLf q
  | [], m, Z, h, h' => by simp [toLf] at h h'; omega
  | c :: q, 0, Z, h, h' => by omega
  | c :: q, m + 1, Z, h, h' => by
    rw [List.take_succ_cons, List.cons_append]
    simp only [toLf] at h ⊢
    split
    · rfl
    · rename_i hc
      rw [if_neg hc] at h
      rw [toLf_app q m Z (by omega) (by simpa using h')]
theorem toLf_app2 (q Z : List UInt8) : toLf (q ++ 10 :: Z) = toLf q := by
  induction q with
  | nil => simp [toLf]
  | cons c q ih => rw [List.cons_append]; simp only [toLf, ih]
theorem toLf_lf {q : List UInt8} (h : toLf q < q.length) : ∃ r, q.drop (toLf q) = 10 :: r := by
  induction q with
  | nil => simp at h
  | cons c q ih =>
    simp only [toLf] at h ⊢
    split
    · rename_i hc; exact ⟨q, by rw [hc]; rfl⟩
    · rename_i hc
      rw [if_neg hc] at h
      simp at h
      rw [List.drop_succ_cons]
      exact ih h
theorem isRem_take {q : List UInt8} {m : Nat} (h : isRem q = true) (hm : 2 ≤ m) (Z : List UInt8) : isRem (q.take m ++ Z) = true := by
  match q, h with
  | [], h => simp [isRem] at h
  | [_], h => simp [isRem] at h
  | a :: b :: r, h =>
    obtain ⟨m, rfl⟩ : ∃ k, m = k + 2 := ⟨m - 2, by omega⟩
    exact h
theorem toLf_rem {q : List UInt8} (h : isRem q = true) : 2 ≤ toLf q := by
  match q, h with
  | [], h => simp [isRem] at h
  | [_], h => simp [isRem] at h
  | a :: b :: r, h =>
    simp [isRem] at h
    obtain ⟨rfl, rfl⟩ := h
    simp [toLf]
theorem lf_blank : isBlank 10 = true := by decide
theorem drop_take_app (q Z : List UInt8) {n m : Nat} (h : n ≤ m) (hm : m ≤ q.length) : (q.take m ++ Z).drop n = (q.drop n).take (m - n) ++ Z := by
  rw [List.drop_append, List.drop_take, List.length_take, show n - min m q.length = 0 by omega, List.drop_zero]

theorem skip_idem (q : List UInt8) : skip (q.drop (skip q)) = 0 := by
  have key : ∀ n (q : List UInt8), q.length = n → skip (q.drop (skip q)) = 0 := by
    intro n
    induction n using Nat.strongRecOn with
    | _ n ih =>
      intro q hq
      match q with
      | [] => rfl
      | c :: r =>
        cases hb : isBlank c with
        | true => rw [skip_blank hb, List.drop_succ_cons]; exact ih r.length (by simp at hq; omega) r rfl
        | false =>
          cases hr : isRem (c :: r) with
          | true =>
            have hp := toLf_pos hr
            rw [skip_rem hr, ← List.drop_drop]
            exact ih ((c :: r).drop (toLf (c :: r))).length (by simp only [List.length_drop, List.length_cons] at *; omega) _ rfl
          | false => rw [skip_other hb hr, List.drop_zero]; exact skip_other hb hr
  exact key _ q rfl

/-- what stands ahead of a token stays, if something is put in right behind the token's first byte or later -/
theorem skip_keep (q Z : List UInt8) (y : UInt8) (m : Nat) (hm : skip q < m) (hq : m ≤ q.length) (hy : isBlank y = true) : skip (q.take m ++ y :: Z) = skip q := by
  have key : ∀ n (q : List UInt8) (m : Nat), q.length = n → skip q < m → m ≤ q.length → skip (q.take m ++ y :: Z) = skip q := by
    intro n
    induction n using Nat.strongRecOn with
    | _ n ih =>
      intro q m hn hm hq
      match q with
      | [] => simp at hq; omega
      | c :: r =>
        obtain ⟨m, rfl⟩ : ∃ k, m = k + 1 := ⟨m - 1, by omega⟩
        cases hb : isBlank c with
        | true =>
          rw [skip_blank hb] at hm ⊢
          rw [List.take_succ_cons, List.cons_append, skip_blank hb, ih r.length (by simp at hn; omega) r m rfl (by omega) (by simpa using hq)]
        | false =>
          cases hr : isRem (c :: r) with
          | true =>
            have hp := toLf_rem hr
            have e := skip_rem hr
            have hr' := isRem_take hr (show 2 ≤ m + 1 by omega) (y :: Z)
            rw [skip_rem hr', toLf_app _ _ _ (by omega) hq, drop_take_app _ _ (by omega) hq, e]
            rw [ih ((c :: r).drop (toLf (c :: r))).length (by simp only [List.length_drop, List.length_cons] at *; omega) _ _ rfl (by omega) (by simp only [List.length_drop]; omega)]
          | false =>
            rw [skip_other hb hr, List.take_succ_cons, List.cons_append]
            apply skip_other hb
            match r, m with
            | [], _ => simp only [isRem, decide_eq_false_iff_not, List.take_nil, List.nil_append]; rintro ⟨_, h⟩; exact (blank_not hy).2.2.2.1 h
            | b :: r, 0 => simp only [isRem, decide_eq_false_iff_not, List.take_zero, List.nil_append]; rintro ⟨_, h⟩; exact (blank_not hy).2.2.2.1 h
            | b :: r, m + 1 => exact hr
  exact key _ q m rfl hm hq

/-- what stands ahead of a token, and something more -/
theorem skip_more (q Z : List UInt8) (h : skip q < q.length) : skip (q.take (skip q) ++ Z) = skip q + skip Z := by
  have key : ∀ n (q : List UInt8), q.length = n → skip q < q.length → skip (q.take (skip q) ++ Z) = skip q + skip Z := by
    intro n
    induction n using Nat.strongRecOn with
    | _ n ih =>
      intro q hn h
      match q with
      | [] => simp at h
      | c :: r =>
        cases hb : isBlank c with
        | true =>
          rw [skip_blank hb] at h ⊢
          rw [List.take_succ_cons, List.cons_append, skip_blank hb, ih r.length (by simp at hn; omega) r rfl (by simpa using h)]
          omega
        | false =>
          cases hr : isRem (c :: r) with
          | true =>
            have hp := toLf_rem hr
            have e := skip_rem hr
            obtain ⟨r', hlf⟩ := toLf_lf (q := c :: r) (by omega)
            have hs1 : 1 ≤ skip ((c :: r).drop (toLf (c :: r))) := by rw [hlf, skip_blank lf_blank]; omega
            have hr' := isRem_take hr (show 2 ≤ skip (c :: r) by omega) Z
            rw [skip_rem hr', toLf_app _ _ _ (by omega) (by omega), drop_take_app _ _ (by omega) (by omega)]
            rw [show skip (c :: r) - toLf (c :: r) = skip ((c :: r).drop (toLf (c :: r))) by omega]
            rw [ih ((c :: r).drop (toLf (c :: r))).length (by simp only [List.length_drop, List.length_cons] at *; omega) _ rfl (by simp only [List.length_drop]; omega)]
            omega
          | false => rw [skip_other hb hr]; simp
  exact key _ q rfl h

/-- nothing but blanks and remarks, then a line's end -/
theorem skip_line (q Z : List UInt8) (h : q.length ≤ skip q) : skip (q ++ 10 :: Z) = q.length + skip (10 :: Z) := by
  have key : ∀ n (q : List UInt8), q.length = n → q.length ≤ skip q → skip (q ++ 10 :: Z) = q.length + skip (10 :: Z) := by
    intro n
    induction n using Nat.strongRecOn with
    | _ n ih =>
      intro q hn h
      match q with
      | [] => simp
      | c :: r =>
        cases hb : isBlank c with
        | true =>
          rw [skip_blank hb] at h
          rw [List.cons_append, skip_blank hb, ih r.length (by simp at hn; omega) r rfl (by simpa using h)]
          simp; omega
        | false =>
          cases hr : isRem (c :: r) with
          | true =>
            have hp := toLf_rem hr
            have hle := toLf_le (c :: r)
            have e := skip_rem hr
            have hr' : isRem ((c :: r) ++ 10 :: Z) = true := by
              have := isRem_take hr (m := (c :: r).length) (by omega) (10 :: Z)
              rwa [List.take_length] at this
            rw [skip_rem hr', toLf_app2, List.drop_append, show toLf (c :: r) - (c :: r).length = 0 by omega, List.drop_zero]
            rw [ih ((c :: r).drop (toLf (c :: r))).length (by simp only [List.length_drop, List.length_cons] at *; omega) _ rfl (by simp only [List.length_drop]; omega)]
            simp only [List.length_drop]; omega
          | false => rw [skip_other hb hr] at h; simp at h
  exact key _ q rfl h

/-- a token elsewhere -/
def moved (d : Nat) (t : Tok) : Tok := ⟨t.kind, t.text, t.word, d⟩
theorem tokAt_move {q : List UInt8} {i : Nat} {t : Tok} (h : tokAt q i = .tok t) (j : Nat) : tokAt q j = .tok (moved j t) := by
  simp only [tokAt] at h ⊢
  repeat' split at h
  all_goals (first | (cases h; done) | (simp only [*, if_true, if_false, Bool.false_eq_true]; cases h; first | rfl | (simp [moved, *]; done)))
end LexS
