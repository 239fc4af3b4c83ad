/- Plain laws on numbers as texts: they are cut as one number. -/
import Derived.Test.YtakepmhgmgpkkaaDoorSpec5
namespace LexS
def decF : Nat → Nat → List UInt8
  | 0, n => [UInt8.ofNat (48 + n % 10)]
  | k + 1, n => if n < 10 then [UInt8.ofNat (48 + n)] else decF k (n / 10) ++ [UInt8.ofNat (48 + n % 10)]
/-- a number's digits -/
def dec (n : Nat) : List UInt8 := decF n n
theorem decF_fuel : ∀ (k j n : Nat), n ≤ k → n ≤ j → decF k n = decF j n
  | 0, 0, n, _, _ => rfl
  | 0, j + 1, n, h, _ => by
    obtain rfl : n = 0 := by omega
    simp [decF]
  | k + 1, 0, n, _, h => by
    obtain rfl : n = 0 := by omega
    simp [decF]
  | k + 1, j + 1, n, h1, h2 => by
    simp only [decF]
    split
    · rfl
    · rw [decF_fuel k j (n / 10) (by omega) (by omega)]
theorem dec_small {n : Nat} (h : n < 10) : dec n = [UInt8.ofNat (48 + n)] := by
  unfold dec
  cases n with
  | zero => rfl
  | succ n => simp only [decF]; rw [if_pos h]
theorem dec_big {n : Nat} (h : 10 ≤ n) : dec n = dec (n / 10) ++ [UInt8.ofNat (48 + n % 10)] := by
  unfold dec
  obtain ⟨m, rfl⟩ : ∃ m, n = m + 1 := ⟨n - 1, by omega⟩
  simp only [decF]
  rw [if_neg (by omega), decF_fuel m ((m + 1) / 10) _ (by omega) (by omega)]
theorem digit_of {d : Nat} (h : d < 10) : isDigit (UInt8.ofNat (48 + d)) = true ∧ (UInt8.ofNat (48 + d)).toNat = 48 + d := by
  have e : (UInt8.ofNat (48 + d)).toNat = 48 + d := by
    rw [UInt8.toNat_ofNat']; omega
  refine ⟨?_, e⟩
  simp only [isDigit, decide_eq_true_eq, e]; omega
theorem dec_ind (P : Nat → Prop) (h1 : ∀ n, n < 10 → P n) (h2 : ∀ n, 10 ≤ n → P (n / 10) → P n) (n : Nat) : P n := by
  induction n using Nat.strongRecOn with
  | _ n ih =>
    rcases Nat.lt_or_ge n 10 with h | h
    · exact h1 n h
    · exact h2 n h (ih (n / 10) (by omega))
theorem dec_all (n : Nat) : (dec n).all isDigit = true := by
  refine dec_ind (fun n => (dec n).all isDigit = true) (fun n h => ?_) (fun n h ih => ?_) n
  · rw [dec_small h, List.all_cons, (digit_of h).1]; rfl
  · rw [dec_big h, List.all_append, ih, List.all_cons, (digit_of (Nat.mod_lt n (by omega : 0 < 10))).1]; rfl
theorem dec_val (n : Nat) : numVal (dec n) = n := by
  refine dec_ind (fun n => numVal (dec n) = n) (fun n h => ?_) (fun n h ih => ?_) n
  · rw [dec_small h]; simp only [numVal, List.foldl_cons, List.foldl_nil, (digit_of h).2]; omega
  · rw [dec_big h, numVal_snoc, ih, (digit_of (Nat.mod_lt n (by omega : 0 < 10))).2]; omega
theorem dec_pos (n : Nat) : 1 ≤ (dec n).length := by
  refine dec_ind (fun n => 1 ≤ (dec n).length) (fun n h => ?_) (fun n h ih => ?_) n
  · rw [dec_small h]; simp
  · rw [dec_big h]; simp
theorem dec_len (k : Nat) : ∀ n, n < 10 ^ (k + 1) → (dec n).length ≤ k + 1 := by
  induction k with
  | zero => intro n h; rw [dec_small (by simpa using h)]; simp
  | succ k ih =>
    intro n h
    rcases Nat.lt_or_ge n 10 with h1 | h1
    · rw [dec_small h1]; simp
    · rw [dec_big h1]
      have := ih (n / 10) (by rw [Nat.div_lt_iff_lt_mul (by omega)]; rw [Nat.pow_succ] at h; exact h)
      simp; omega
theorem dec_head (n : Nat) : 10 ≤ n → (dec n).getD 0 0 ≠ 48 ∧ True := by
  have key : ∀ n, 1 ≤ n → (dec n).getD 0 0 ≠ 48 := by
    refine dec_ind (fun n => 1 ≤ n → (dec n).getD 0 0 ≠ 48) (fun n h h1 => ?_) (fun n h ih h1 => ?_)
    · rw [dec_small h]
      intro e
      have e2 := congrArg UInt8.toNat (by simpa using e : UInt8.ofNat (48 + n) = 48)
      rw [(digit_of h).2] at e2
      simp at e2; omega
    · rw [dec_big h]
      have hp := dec_pos (n / 10)
      have := ih (by omega)
      simp only [List.getD] at this ⊢
      rw [List.getElem?_append_left (by omega)]
      exact this
  exact fun h => ⟨key n (by omega), trivial⟩
theorem tw_dec (n : Nat) (Z : List UInt8) (hZ : Z = [] ∨ ∃ r, Z = 32 :: r) : (dec n ++ Z).takeWhile isDigit = dec n := by
  rcases hZ with rfl | ⟨r, rfl⟩
  · rw [List.append_nil]; exact tw_self (dec_all n)
  · have := tw_app (p := isDigit) (y := 32) (Z := r) (by decide) (dec n) (dec n).length (by rw [tw_self (dec_all n)]; exact Nat.le_refl _)
    rw [List.take_length, tw_self (dec_all n)] at this
    exact this
theorem dec_lead (n : Nat) (c : UInt8) (r : List UInt8) (h : dec n = c :: r) : ¬(1 < (dec n).length ∧ c = 48) := by
  rintro ⟨h1, rfl⟩
  have h10 : 10 ≤ n := by
    rcases Nat.lt_or_ge n 10 with h2 | h2
    · rw [dec_small h2] at h1; simp at h1
    · exact h2
  exact (dec_head n h10).1 (by rw [h]; rfl)
/-- a number that stands alone, with blanks behind it -/
theorem dec_tok (n i : Nat) (Z : List UInt8) (hZ : Z = [] ∨ ∃ r, Z = 32 :: r) : tokAt (dec n ++ Z) i = if 9223372036854775807 < n then .bad 3 i else .tok ⟨3, dec n, n, i⟩ := by
  have ht := tw_dec n Z hZ
  have hv := dec_val n
  have hp := dec_pos n
  have ha := dec_all n
  obtain ⟨c, r, hd⟩ : ∃ c r, dec n = c :: r := by
    match hq : dec n, hp with
    | c :: r, _ => exact ⟨c, r, rfl⟩
  have hlead := dec_lead n c r hd
  have hc : isDigit c = true := by rw [hd, List.all_cons, Bool.and_eq_true] at ha; exact ha.1
  have hdrop : (dec n ++ Z).drop (dec n).length = Z := List.drop_left
  rw [hd] at ht hdrop hv hlead ⊢
  rw [List.cons_append] at ht hdrop ⊢
  simp only [tokAt, digit_not_letter hc, hc, Bool.false_eq_true, if_false, if_true, ht, hv, hdrop]
  by_cases hn : 9223372036854775807 < n
  · rw [if_pos (.inr hn), if_pos hn]
  · rw [if_neg (by rintro (h | h); exact hlead h; exact hn h), if_neg hn]
    rcases hZ with rfl | ⟨q, rfl⟩
    · rfl
    · have : isLetter 32 = false := by decide
      simp [this]
theorem skip_dec (n : Nat) (Z : List UInt8) : skip (dec n ++ Z) = 0 := by
  have hp := dec_pos n
  have ha := dec_all n
  obtain ⟨c, r, hd⟩ : ∃ c r, dec n = c :: r := by
    match hq : dec n, hp with
    | c :: r, _ => exact ⟨c, r, rfl⟩
  have hc : isDigit c = true := by rw [hd, List.all_cons, Bool.and_eq_true] at ha; exact ha.1
  have hcn : 48 ≤ c.toNat ∧ c.toNat ≤ 57 := by simpa [isDigit] using hc
  rw [hd, List.cons_append]
  refine skip_other (by simp only [isBlank, decide_eq_false_iff_not]; omega) ?_
  cases hr : r ++ Z with
  | nil => rfl
  | cons d q =>
    simp only [isRem, decide_eq_false_iff_not]
    rintro ⟨rfl, -⟩
    simp at hcn
def sps (k : Nat) : List UInt8 := List.replicate k 32
theorem scan_sps (k : Nat) (Z : List UInt8) (i : Nat) : scanA (sps k ++ Z) i = scanA Z (i + k) := by
  induction k generalizing i with
  | zero => simp [sps]
  | succ k ih =>
    rw [show sps (k + 1) ++ Z = 32 :: (sps k ++ Z) by simp [sps, List.replicate_succ], scanA_sp, ih]
    congr 1; omega
theorem sps_form (k : Nat) : sps k = [] ∨ ∃ r, sps k = 32 :: r := by
  cases k with
  | zero => exact .inl rfl
  | succ k => exact .inr ⟨sps k, by simp [sps, List.replicate_succ]⟩
theorem scan_end (k i : Nat) : scanA (sps k) i = ([], none) := by
  have := scan_sps k [] i
  rw [List.append_nil] at this
  rw [this]; exact scanA_end (by simp)
theorem scan_dec (n k i : Nat) : scanA (dec n ++ sps k) i = if 9223372036854775807 < n then ([], some (3, i)) else ([⟨3, dec n, n, i⟩], none) := by
  have hs := skip_dec n (sps k)
  have hp := dec_pos n
  have ht := dec_tok n i (sps k) (sps_form k)
  by_cases hn : 9223372036854775807 < n
  · rw [if_pos hn] at ht ⊢
    exact scanA_bad (by rw [hs]; simp; omega) (by rw [hs]; exact ht)
  · rw [if_neg hn] at ht ⊢
    rw [scanA_tok (t := ⟨3, dec n, n, i⟩) (by rw [hs]; simp; omega) (by rw [hs]; exact ht), hs]
    simp only [Nat.zero_add, List.drop_left, scan_end]
theorem scan_neg (n k i : Nat) : scanA (45 :: (dec n ++ sps k)) i = if 9223372036854775807 < n then ([⟨4, [45], 0, i⟩], some (3, i + 1)) else ([⟨4, [45], 0, i⟩, ⟨3, dec n, n, i + 1⟩], none) := by
  have hb : isBlank 45 = false := by decide
  have hs : skip (45 :: (dec n ++ sps k)) = 0 := by
    refine skip_other hb ?_
    cases hr : dec n ++ sps k with
    | nil => rfl
    | cons d q => simp [isRem]
  have h1 : isLetter 45 = false := by decide
  have h2 : isDigit 45 = false := by decide
  have h3 : isSign2 ((45 :: (dec n ++ sps k)).take 2) = false := by
    cases hr : dec n ++ sps k with
    | nil => decide
    | cons d q => simp [isSign2]
  have h4 : isSign1 [45] = true := by decide
  have ht : tokAt (45 :: (dec n ++ sps k)) i = .tok ⟨4, [45], 0, i⟩ := by
    simp only [tokAt, h1, h2, h3, h4, Bool.false_eq_true, if_false, if_true]
  rw [scanA_tok (t := ⟨4, [45], 0, i⟩) (by rw [hs]; simp) (by rw [hs]; exact ht), hs]
  simp only [Nat.zero_add, Nat.add_zero, List.length_cons, List.length_nil, List.drop_succ_cons, List.drop_zero, scan_dec]
  split <;> rfl
/-- a word's text -/
def shw (w : Int) : List UInt8 := if w < 0 then 45 :: dec w.natAbs else dec w.natAbs
theorem scan_shw (w : Int) (k : Nat) : scanA (sps k ++ (shw w ++ sps k)) 0 =
    if w < 0 then (if 9223372036854775807 < w.natAbs then ([⟨4, [45], 0, k⟩], some (3, k + 1)) else ([⟨4, [45], 0, k⟩, ⟨3, dec w.natAbs, w.natAbs, k + 1⟩], none))
    else (if 9223372036854775807 < w.natAbs then ([], some (3, k)) else ([⟨3, dec w.natAbs, w.natAbs, k⟩], none)) := by
  rw [scan_sps, Nat.zero_add]
  unfold shw
  split
  · rw [List.cons_append, scan_neg]
  · rw [scan_dec]
theorem scan_sign {t : List UInt8} (h : isSign t = true) : scanA t 0 = ([⟨4, t, 0, 0⟩], none) := by
  have ht := sign_tok h
  have hs := rgt_skip ht rfl
  have hl := tok_len ht
  rw [scanA_tok (t := ⟨4, t, 0, 0⟩) (by rw [hs]; exact hl.1) (by rw [hs]; exact ht), hs, Nat.zero_add]
  simp only [List.drop_length]
  rw [scanA_end (by simp)]
end LexS
