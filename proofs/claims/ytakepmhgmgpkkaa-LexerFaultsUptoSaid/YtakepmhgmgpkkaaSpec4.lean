/- Plain laws on a text that is cut at the end of a line: a fault stays, and the tokens ahead of it. -/
import Derived.Test.YtakepmhgmgpkkaaSpec3
namespace LexS
theorem lf_not : isIdent 10 = false ∧ isDigit 10 = false ∧ isLetter 10 = false := by decide
theorem tw_le {p : UInt8 → Bool} (hp : p 10 = false) : ∀ (q : List UInt8) (m : Nat), (m = q.length ∨ q[m]? = some 10) → (q.takeWhile p).length ≤ m
  | [], m, h => by simp
  | c :: q, 0, h => by
    rcases h with h | h
    · simp at h
    · simp at h; subst h; simp [hp]
  | c :: q, m + 1, h => by
    rw [List.takeWhile_cons]
    split
    · have := tw_le hp q m (by simpa using h)
      simpa using this
    · simp
theorem bad_rules {r : List UInt8} {i rule p : Nat} (h : tokAt r i = .bad rule p) : 1 ≤ rule ∧ rule ≤ 4 := by
  simp only [tokAt] at h
  (repeat' split at h) <;> first | (simp at h; done) | (simp at h; omega)
theorem bad_at {r : List UInt8} {i rule p : Nat} (h0 : 0 < r.length) (h : tokAt r i = .bad rule p) : i ≤ p ∧ p < i + r.length := by
  match r, h, h0 with
  | [], h, h0 => simp at h0
  | c :: r, h, _ =>
    have tl : ∀ p : UInt8 → Bool, ((c :: r).takeWhile p).length ≤ (c :: r).length := fun p => (List.takeWhile_prefix p).length_le
    simp only [tokAt] at h
    split at h
    · split at h
      · cases h
      · split at h
        · cases h; have := tl isIdent; simp only [List.length_cons] at *; omega
        · cases h
    · split at h
      · split at h
        · cases h; simp
        · split at h
          · rename_i hd
            split at h
            · cases h
              have := congrArg List.length hd
              simp only [List.length_drop, List.length_cons] at *
              omega
            · cases h
          · cases h
      · split at h
        · cases h
        · split at h
          · cases h
          · cases h; simp
theorem tokAt_cut (q Z : List UInt8) (i m : Nat) (h0 : 0 < m) (hm : m ≤ q.length) (he : m = q.length ∨ q[m]? = some 10) : tokAt (q.take m ++ 10 :: Z) i = tokAt q i := by
  obtain ⟨l1, l2, l3⟩ := lf_not
  obtain ⟨b1, b2, b3, b4, b5⟩ := blank_not lf_blank
  match q, m, h0 with
  | [], m, h0 => simp at hm; omega
  | c :: q, m + 1, _ =>
    have e1 := tw_app (p := isIdent) (y := 10) (Z := Z) l1 (c :: q) (m + 1) (tw_le l1 _ _ he)
    have e2 := tw_app (p := isDigit) (y := 10) (Z := Z) l2 (c :: q) (m + 1) (tw_le l2 _ _ he)
    have hl := tw_le l2 (c :: q) (m + 1) he
    have e3 : (∃ d r1 r2, (c :: q).drop ((c :: q).takeWhile isDigit).length = d :: r1 ∧ ((c :: q).take (m + 1) ++ 10 :: Z).drop ((c :: q).takeWhile isDigit).length = d :: r2) ∨
        (((c :: q).drop ((c :: q).takeWhile isDigit).length = [] ∨ ∃ r1, (c :: q).drop ((c :: q).takeWhile isDigit).length = 10 :: r1) ∧ ∃ r2, ((c :: q).take (m + 1) ++ 10 :: Z).drop ((c :: q).takeWhile isDigit).length = 10 :: r2) := by
      generalize ((c :: q).takeWhile isDigit).length = L at *
      rw [drop_take_app _ _ hl hm]
      rcases Nat.lt_or_ge L (m + 1) with h | h
      · have hL' : L < (c :: q).length := by omega
        rw [List.drop_eq_getElem_cons hL', show m + 1 - L = (m - L) + 1 by omega, List.take_succ_cons]
        exact .inl ⟨_, _, _, rfl, rfl⟩
      · obtain rfl : L = m + 1 := by omega
        rw [Nat.sub_self, List.take_zero, List.nil_append]
        right
        refine ⟨?_, _, rfl⟩
        rcases he with h | h
        · left; rw [List.drop_eq_nil_of_le (by omega)]
        · right
          obtain ⟨h1, h2⟩ := List.getElem?_eq_some_iff.1 h
          rw [List.drop_eq_getElem_cons h1, h2]
          exact ⟨_, rfl⟩
    have e4 : isSign2 (((c :: q).take (m + 1) ++ 10 :: Z).take 2) = isSign2 ((c :: q).take 2) := by
      match q, m, hm, he with
      | [], 0, _, _ => simp only [List.take_succ_cons, List.take_zero, List.cons_append, List.nil_append, List.take_nil]; rw [b5]; simp [isSign2]
      | [], m + 1, h, _ => simp at h
      | d :: q, 0, h, h' =>
        rcases h' with h' | h'
        · simp at h'
        · have : d = 10 := by simpa using h'
          subst this
          simp
      | d :: q, m + 1, h, _ => simp
    have e5 : isSign2 ((c :: q).take 2) = true → ((c :: q).take (m + 1) ++ 10 :: Z).take 2 = (c :: q).take 2 := by
      match q, m, hm, he with
      | [], _, _, _ => intro h; simp [isSign2] at h
      | d :: q, 0, h, h' =>
        intro hs
        rcases h' with h' | h'
        · simp at h'
        · have : d = 10 := by simpa using h'
          subst this
          rw [show List.take 2 (c :: 10 :: q) = [c, 10] from rfl, b5] at hs
          cases hs
      | d :: q, m + 1, h, _ => intro _; simp
    have et : (c :: q).take (m + 1) ++ 10 :: Z = c :: (q.take m ++ 10 :: Z) := rfl
    rw [et] at e1 e2 e3 e4 e5 ⊢
    simp only [tokAt]
    rw [e1, e2, e4]
    cases hs : isSign2 (List.take 2 (c :: q))
    · rcases e3 with ⟨d, r1, r2, h1, h2⟩ | ⟨h1 | ⟨r1, h1⟩, r2, h2⟩ <;> simp only [h1, h2, l3, Bool.false_eq_true, if_false]
    · rw [e5 hs]
      rcases e3 with ⟨d, r1, r2, h1, h2⟩ | ⟨h1 | ⟨r1, h1⟩, r2, h2⟩ <;> simp only [h1, h2, l3, Bool.false_eq_true, if_false, if_true]
theorem front_at : ∀ (A : List Tok) (r : List UInt8) (i rule p : Nat), scanA r i = (A, some (rule, p)) → i ≤ p ∧ p < i + r.length ∧ 1 ≤ rule ∧ rule ≤ 4
  | [], r, i, rule, p, h => by
    rcases Nat.lt_or_ge (skip r) r.length with hk | hk
    · cases hx : tokAt (r.drop (skip r)) (i + skip r) with
      | bad rule' p' =>
        rw [scanA_bad hk hx] at h
        simp only [Prod.mk.injEq, Option.some.injEq, true_and] at h
        obtain ⟨rfl, rfl⟩ := h
        have h1 := bad_at (by simp; omega) hx
        have h2 := bad_rules hx
        simp only [List.length_drop] at h1
        omega
      | tok x => rw [scanA_tok hk hx] at h; simp at h
    · rw [scanA_end hk] at h; simp at h
  | t :: T, r, i, rule, p, h => by
    obtain ⟨h1, h2, h3⟩ := scan_inv h
    have := front_at T _ _ _ _ h3
    simp only [List.length_drop] at this
    omega
theorem tw_get {p : UInt8 → Bool} : ∀ (l : List UInt8) (k : Nat), k < (l.takeWhile p).length → ∃ c, l[k]? = some c ∧ p c = true
  | [], k, h => by simp at h
  | c :: l, k, h => by
    rw [List.takeWhile_cons] at h
    split at h
    · rename_i hc
      cases k with
      | zero => exact ⟨c, rfl, hc⟩
      | succ k => simpa using tw_get l k (by simpa using h)
    · simp at h
theorem bad_char {r : List UInt8} {i rule p : Nat} (h0 : 0 < r.length) (hs : skip r = 0) (h : tokAt r i = .bad rule p) : ∃ c, r[p - i]? = some c ∧ c ≠ 10 := by
  obtain ⟨l1, l2, l3⟩ := lf_not
  match r, h, h0 with
  | [], h, h0 => simp at h0
  | c :: r, h, _ =>
    have hb : isBlank c = false := by
      cases hb : isBlank c with
      | false => rfl
      | true => rw [skip_blank hb] at hs; omega
    have hc : c ≠ 10 := by rintro rfl; rw [lf_blank] at hb; cases hb
    simp only [tokAt] at h
    split at h
    · split at h
      · cases h
      · split at h
        · rename_i hl
          cases h
          obtain ⟨d, hd, hp⟩ := tw_get _ _ hl
          refine ⟨d, by rw [show i + 32 - i = 32 by omega]; exact hd, ?_⟩
          rintro rfl; rw [l1] at hp; cases hp
        · cases h
    · split at h
      · split at h
        · cases h; exact ⟨c, by simp, hc⟩
        · split at h
          · rename_i d r' hd
            split at h
            · rename_i hl
              cases h
              refine ⟨d, ?_, by rintro rfl; rw [l3] at hl; cases hl⟩
              have := congrArg (·[0]?) hd
              simp only [List.getElem?_drop, Nat.add_zero] at this
              rw [Nat.add_sub_cancel_left]
              simpa using this
            · cases h
          · cases h
      · split at h
        · cases h
        · split at h
          · cases h
          · cases h; exact ⟨c, by simp, hc⟩
theorem front_char : ∀ (A : List Tok) (r : List UInt8) (i rule p : Nat), scanA r i = (A, some (rule, p)) → ∃ c, r[p - i]? = some c ∧ c ≠ 10
  | [], r, i, rule, p, h => by
    rcases Nat.lt_or_ge (skip r) r.length with hk | hk
    · cases hx : tokAt (r.drop (skip r)) (i + skip r) with
      | bad rule' p' =>
        rw [scanA_bad hk hx] at h
        simp only [Prod.mk.injEq, Option.some.injEq, true_and] at h
        obtain ⟨rfl, rfl⟩ := h
        have h1 := bad_at (by simp; omega) hx
        obtain ⟨c, hc, hne⟩ := bad_char (by simp; omega) (skip_idem r) hx
        rw [List.getElem?_drop, show skip r + (p' - (i + skip r)) = p' - i by omega] at hc
        exact ⟨c, hc, hne⟩
      | tok x => rw [scanA_tok hk hx] at h; simp at h
    · rw [scanA_end hk] at h; simp at h
  | t :: T, r, i, rule, p, h => by
    obtain ⟨h1, h2, h3⟩ := scan_inv h
    have hf := front_at T _ _ _ _ h3
    obtain ⟨c, hc, hne⟩ := front_char T _ _ _ _ h3
    rw [List.getElem?_drop, show skip r + t.text.length + (p - (i + skip r + t.text.length)) = p - i by omega] at hc
    exact ⟨c, hc, hne⟩
theorem scan_cut (Z : List UInt8) : ∀ (A : List Tok) (r : List UInt8) (i c rule p : Nat), scanA r i = (A, some (rule, p)) → c ≤ r.length → (c = r.length ∨ r[c]? = some 10) → p < i + c →
    scanA (r.take c ++ 10 :: Z) i = (A, some (rule, p))
  | [], r, i, c, rule, p, h, hc, he, hp => by
    rcases Nat.lt_or_ge (skip r) r.length with hk | hk
    · cases hx : tokAt (r.drop (skip r)) (i + skip r) with
      | bad rule' p' =>
        rw [scanA_bad hk hx] at h
        simp only [Prod.mk.injEq, Option.some.injEq, true_and] at h
        obtain ⟨rfl, rfl⟩ := h
        have h1 := bad_at (by simp; omega) hx
        have hs := skip_keep r Z 10 c (by omega) hc lf_blank
        refine scanA_bad (by rw [hs]; simp; omega) ?_
        rw [hs, drop_take_app _ _ (by omega) hc, tokAt_cut _ _ _ _ (by omega) (by simp; omega) ?_]
        · exact hx
        · rcases he with he | he
          · left; simp; omega
          · right; rw [List.getElem?_drop, show skip r + (c - skip r) = c by omega]; exact he
      | tok x => rw [scanA_tok hk hx] at h; simp at h
    · rw [scanA_end hk] at h; simp at h
  | t :: T, r, i, c, rule, p, h, hc, he, hp => by
    obtain ⟨hk, hx, h3⟩ := scan_inv h
    have hf := front_at T _ _ _ _ h3
    have hs := skip_keep r Z 10 c (by omega) hc lf_blank
    have ih := scan_cut Z T (r.drop (skip r + t.text.length)) (i + skip r + t.text.length) (c - (skip r + t.text.length)) rule p h3 (by simp; omega) (by
      rcases he with he | he
      · left; simp; omega
      · right; rw [List.getElem?_drop, show skip r + t.text.length + (c - (skip r + t.text.length)) = c by omega]; exact he) (by omega)
    have hx2 : tokAt ((r.take c ++ 10 :: Z).drop (skip (r.take c ++ 10 :: Z))) (i + skip (r.take c ++ 10 :: Z)) = .tok t := by
      rw [hs, drop_take_app _ _ (by omega) hc, tokAt_cut _ _ _ _ (by omega) (by simp; omega) ?_]
      · exact hx
      · rcases he with he | he
        · left; simp; omega
        · right; rw [List.getElem?_drop, show skip r + (c - skip r) = c by omega]; exact he
    rw [scanA_tok (by rw [hs]; simp; omega) hx2, hs, drop_take_app _ _ (by omega) hc, ih]
end LexS
