/- A part of the proof: contracts of functions and plain laws; each theorem says its own conditions. -/
import Derived.Test.YtnmhlpnapgojjaaGreatDoorTopReadK2
import Derived.Test.YtnmhlpnapgojjaaGreatDoorTopReadK1
import Derived.Test.YtnmhlpnapgojjaaGreatDoorTopReadK0
set_option linter.unusedVariables false
set_option linter.unusedSimpArgs false
namespace Go.Proofs.YtnmhlpnapgojjaaGreatDoor
open Go.RowKit Sx LexS _root_.Go.Proofs.Tryz
theorem isName_eq {l : List UInt8} (h0 : l ≠ []) (h1 : l.length ≤ 32) (h2 : isDigit (l.getD 0 0) = false) (h3 : isWord l = false) : isName l = l.all isIdent := by
 match l, h0 with
 | c :: r, _ => simp at h2 h1; simp [isName, h2, h3, h1]
theorem isName_nil {l : List UInt8} (h : l = []) : isName l = false := by subst h; rfl
theorem isName_long {l : List UInt8} (h : 32 < l.length) : isName l = false := by
 match l, h with
 | c :: r, h => simp only [isName]; rw [show decide ((c :: r).length ≤ 32) = false from by simp only [decide_eq_false_iff_not]; omega]; simp
theorem isName_digit {l : List UInt8} (h : isDigit (l.getD 0 0) = true) : isName l = false := by
 match l with
 | [] => rfl
 | c :: r => simp at h; simp [isName, h]
theorem isName_word {l : List UInt8} (h : isWord l = true) : isName l = false := by
 match l with
 | [] => rfl
 | c :: r => simp [isName, h]
theorem all_take_succ {p : UInt8 → Bool} {l : List UInt8} {m : Nat} (hm : m < l.length) (h : (l.take m).all p = true) (hp : p (l.getD m 0) = true) : (l.take (m + 1)).all p = true := by
 rw [List.take_add_one]
 have : l[m]? = some (l.getD m 0) := by simp [List.getD, hm]
 rw [this]
 simp only [List.all_append, h, Option.toList_some, List.all_cons, hp, List.all_nil, Bool.and_self]
theorem all_no {p : UInt8 → Bool} {l : List UInt8} {m : Nat} (hm : m < l.length) (hp : p (l.getD m 0) = false) : l.all p = false := by
 rw [List.all_eq_false]
 refine ⟨l.getD m 0, ?_, by rw [hp]; simp⟩
 rw [show l.getD m 0 = l[m] from by simp [List.getD, hm]]
 exact List.getElem_mem hm
set_option maxHeartbeats 1000000 in
theorem name_any (l : List UInt8) (w : World) : Ret Tryz.prog 52 [str l] w fun v w' => v = .bool (isName l) ∧ w' = w := by
 refine ret_of [_] func52 rfl ntmps52 rfl ?_
 have st := St.init w []
 refine sr ?_
 refine ya ?_
 refine et (vk1 0 (vc_seq (sr ?_)))
 refine ym ?_
 refine vy (y_eqs rfl rfl) ?_
 refine vmb ?_ ?_
 ·intro hg6
  try simp only [dn] at hg6
  iterate 3 refine vsk ?_
  refine ypt ?_
  refine ym ?_
  iterate 3 refine vsk ?_
  refine ypt ?_
  refine ym ?_
  iterate 2 refine vsk ?_
  refine ypt ?_
  refine et (vk2 0 19 ?_)
  refine vc_ift rfl ?_
  refine sr ?_
  refine ya ?_
  refine et (vk1 2 (vc_ret (vq_then_ret ?_)))
  refine vr1 st results52 ?_
  refine ⟨?_, rfl⟩
  rw [Value.bool.injEq]
  (symm; apply isName_nil; assumption)
 intro hg6
 try simp only [dn] at hg6
 refine ym ?_
 refine vy (y_lens rfl underlying9) ?_
 refine vy (y_gtr rfl rfl) ?_
 refine ypf ?_
 refine vmb ?_ ?_
 ·intro hg11
  try simp only [dn] at hg11
  iterate 3 refine vsk ?_
  refine ypt ?_
  refine ym ?_
  iterate 2 refine vsk ?_
  refine ypt ?_
  refine et (vk2 0 19 ?_)
  refine vc_ift rfl ?_
  refine sr ?_
  refine ya ?_
  refine et (vk1 2 (vc_ret (vq_then_ret ?_)))
  refine vr1 st results52 ?_
  refine ⟨?_, rfl⟩
  rw [Value.bool.injEq]
  (symm; apply isName_long; omega)
 intro hg11
 try simp only [dn] at hg11
 refine ym ?_
 refine vy (y_ixs (k := 0) rfl rfl underlying9 rfl (by (rcases l with _ | ⟨_, _⟩ <;> simp at * ))) ?_
 refine vc_e (e_call [_] rfl rfl call113 rfl (digit_any _ _) ?_)
 rintro _ w ⟨rfl, rfl⟩
 refine ypf ?_
 refine vmb ?_ ?_
 ·intro hg16
  try simp only [dn] at hg16
  iterate 2 refine vsk ?_
  refine ypt ?_
  refine et (vk2 0 19 ?_)
  refine vc_ift rfl ?_
  refine sr ?_
  refine ya ?_
  refine et (vk1 2 (vc_ret (vq_then_ret ?_)))
  refine vr1 st results52 ?_
  refine ⟨?_, rfl⟩
  rw [Value.bool.injEq]
  (symm; apply isName_digit; assumption)
 intro hg16
 try simp only [dn] at hg16
 refine ym ?_
 refine vc_e (e_call [_] rfl rfl call114 rfl (word_any _ _) ?_)
 rintro _ w ⟨rfl, rfl⟩
 refine ypf ?_
 refine et (vk2 0 19 ?_)
 refine vif ?_ ?_
 ·intro hc19
  try simp only [dn] at hc19
  refine sr ?_
  refine ya ?_
  refine et (vk1 2 (vc_ret (vq_then_ret ?_)))
  refine vr1 st results52 ?_
  refine ⟨?_, rfl⟩
  rw [Value.bool.injEq]
  (symm; apply isName_word; assumption)
 intro hc19
 try simp only [dn] at hc19
 refine kt (vk1 0 (vc_seq (sr ?_)))
 refine ym ?_
 refine vy (y_lens rfl underlying9) ?_
 refine ym ?_
 refine et (vk3 0 21 22 (vc_block ?_))
 refine vc_loop (w0 := _) (M := _) (fun (m : Nat) => [(0, str l), (21, .int .i64 (l.length : Int)), (22, .int .i64 (m : Int))]) (fun _ => []) (fun m w' => m ≤ l.length ∧ (l.take m).all isIdent = true ∧ w' = w) (fun m => l.length - m) 0 ⟨rfl, rfl, rfl, trivial⟩ st ⟨by omega, by simp, rfl⟩ ?_
 rintro m w' ⟨hm, hall, rfl⟩ st
 refine sr ?_
 refine vy (y_lss rfl rfl) ?_
 refine et (vk4 0 21 22 23 (vc_seq ?_))
 refine vif ?_ ?_
 ·intro hc23
  try simp only [dn] at hc23
  refine kt (vk3 0 21 22 (vc_seq (vc_block (sr ?_))))
  refine ym ?_
  refine ya ?_
  refine et (vk4 0 3 21 22 (sr ?_))
  iterate 2 refine ym ?_
  refine vy (y_ixs (k := _) rfl rfl underlying9 rfl (by omega)) ?_
  refine vc_e (e_call [_] rfl rfl call115 rfl (letter_any _ _) ?_)
  rintro _ w ⟨rfl, rfl⟩
  refine vy (y_not rfl) ?_
  refine vmb ?_ ?_
  ·intro hg30
   try simp only [dn] at hg30
   iterate 2 refine ym ?_
   refine vy (y_ixs (k := _) rfl rfl underlying9 rfl (by omega)) ?_
   refine vc_e (e_call [_] rfl rfl call113 rfl (digit_any _ _) ?_)
   rintro _ w ⟨rfl, rfl⟩
   refine vy (y_not rfl) ?_
   refine ypt ?_
   refine et (vk4 0 21 22 36 ?_)
   refine vif ?_ ?_
   ·intro hc36
    try simp only [dn] at hc36
    refine sr ?_
    refine ya ?_
    refine et (vk1 2 (vc_ret (vq_block_ret (vq_then_ret (vq_then_ret (vq_block_ret (vq_then_ret ?_)))))))
    refine vr1 st results52 ?_
    refine ⟨?_, rfl⟩
    rw [Value.bool.injEq]
    (symm; rw [isName_eq (by assumption) (by omega) (by assumption) (by assumption)]; exact all_no (m := m) (by omega) (by simp only [isIdent, *, Bool.or_true, Bool.true_or, Bool.or_self]))
   intro hc36
   try simp only [dn] at hc36
   refine vc_code_skip (vq_block (vq_then (vk3 0 21 22 (vc_region ?_))))
   refine vy (y_add rfl rfl rfl (by omega) (by omega)) ?_
   refine ym ?_
   refine vc_end ?_
   refine vq_again (m + 1) ⟨rfl, rfl, rfl, trivial⟩ st ?_ ?_
   ·exact ⟨by omega, all_take_succ (by omega) hall (by simp only [isIdent, *, Bool.or_true, Bool.true_or, Bool.or_self]), rfl⟩
   omega
  intro hg30
  try simp only [dn] at hg30
  iterate 5 refine vsk ?_
  refine ypf ?_
  refine et (vk4 0 21 22 36 ?_)
  refine vc_iff rfl ?_
  refine vc_code_skip (vq_block (vq_then (vk3 0 21 22 (vc_region ?_))))
  refine vy (y_add rfl rfl rfl (by omega) (by omega)) ?_
  refine ym ?_
  refine vc_end ?_
  refine vq_again (m + 1) ⟨rfl, rfl, rfl, trivial⟩ st ?_ ?_
  ·exact ⟨by omega, all_take_succ (by omega) hall (by simp only [isIdent, *, Bool.or_true, Bool.true_or, Bool.or_self]), rfl⟩
  omega
 intro hc23
 try simp only [dn] at hc23
 refine vc_exit (vq_then_exit (vq_then_exit (vq_block_exit (vq_then (vc_keep [] trivial (sr ?_))))))
 refine ya ?_
 refine et (vk1 2 (vc_ret ?_))
 refine vr1 st results52 ?_
 refine ⟨?_, rfl⟩
 rw [Value.bool.injEq]
 (symm; rw [isName_eq (by assumption) (by omega) (by assumption) (by assumption)]; rw [List.take_of_length_le (by omega)] at hall; exact hall)
end Go.Proofs.YtnmhlpnapgojjaaGreatDoor


/- Blanks and remarks between tokens: no program in sight. -/
namespace LexS

end LexS


/- Tokens, their places left out: no program in sight. -/
namespace LexS
theorem scan_inv {r : List UInt8} {i : Nat} {t : Tok} {T : List Tok} {f : Option (Nat × Nat)} (h : scanA r i = (t :: T, f)) :
    skip r < r.length ∧ tokAt (r.drop (skip r)) (i + skip r) = .tok t ∧ scanA (r.drop (skip r + t.text.length)) (i + skip r + t.text.length) = (T, f) := by
  rcases Nat.lt_or_ge (skip r) r.length with hk | hk
  · cases hx : tokAt (r.drop (skip r)) (i + skip r) with
    | bad rule q => rw [scanA_bad hk hx] at h; simp at h
    | tok x =>
      rw [scanA_tok hk hx] at h
      simp only [Prod.mk.injEq, List.cons.injEq] at h
      obtain ⟨⟨rfl, h1⟩, h2⟩ := h
      exact ⟨hk, rfl, Prod.ext h1 h2⟩
  · rw [scanA_end hk] at h; simp at h
end LexS


/- Plain laws on tokens that are told: which are right, and that printed they are cut again. -/
namespace LexS
/-- the document's answer for a number's digits -/
def numV (l : List UInt8) : Option Nat := if l = [] ∨ (1 < l.length ∧ l.getD 0 0 = 48) ∨ l.all isDigit = false ∨ 9223372036854775807 < numVal l then none else some (numVal l)
theorem tw_all (p : UInt8 → Bool) : ∀ (l : List UInt8), (l.takeWhile p).all p = true
  | [] => rfl
  | c :: l => by
    rw [List.takeWhile_cons]
    split
    · rename_i h; simp [h, tw_all p l]
    · rfl
theorem digit_not_letter {c : UInt8} (h : isDigit c = true) : isLetter c = false := by
  simp only [isDigit, isLetter, decide_eq_true_eq, decide_eq_false_iff_not] at *; omega
/-- a token that is cut is right -/
theorem tok_right {r : List UInt8} {i : Nat} {x : Tok} (h : tokAt r i = .tok x) : (x.kind = 1 ∧ isName x.text = true ∧ x.word = 0) ∨ (x.kind = 2 ∧ isWord x.text = true ∧ x.word = 0) ∨ (x.kind = 3 ∧ numV x.text = some x.word) ∨ (x.kind = 4 ∧ isSign x.text = true ∧ x.word = 0) := by
  match r, h with
  | [], h => simp [tokAt] at h
  | c :: r, h =>
    simp only [tokAt] at h
    split at h
    · rename_i hc
      split at h
      · rename_i hw; cases h; exact .inr (.inl ⟨rfl, hw, rfl⟩)
      · rename_i hw
        split at h
        · cases h
        · rename_i hl
          cases h
          refine .inl ⟨rfl, ?_, rfl⟩
          have hi : isIdent c = true := by simp [isIdent, hc]
          have ha := tw_all isIdent (c :: r)
          have hnd : isDigit c = false := by
            simp only [isDigit, isLetter, decide_eq_true_eq, decide_eq_false_iff_not] at *; omega
          rw [List.takeWhile_cons, if_pos hi] at hw hl ha ⊢
          simp only [isName, hnd, ha, Bool.not_eq_true] at *
          simp only [hw]
          simp at hl ⊢
          omega
    · split at h
      · rename_i hc hd
        split at h
        · cases h
        · rename_i hn
          have key : numV ((c :: r).takeWhile isDigit) = some (numVal ((c :: r).takeWhile isDigit)) := by
            unfold numV
            rw [if_neg]
            have ha := tw_all isDigit (c :: r)
            rw [List.takeWhile_cons, if_pos hd] at hn ha ⊢
            rintro (h | h | h | h)
            · cases h
            · exact hn (.inl ⟨h.1, by simpa using h.2⟩)
            · rw [ha] at h; cases h
            · exact hn (.inr h)
          split at h
          · split at h
            · cases h
            · cases h; exact .inr (.inr (.inl ⟨rfl, key⟩))
          · cases h; exact .inr (.inr (.inl ⟨rfl, key⟩))
      · split at h
        · rename_i hs
          cases h; exact .inr (.inr (.inr ⟨rfl, by show isSign _ = true; unfold isSign; rw [hs]; rfl, rfl⟩))
        · split at h
          · rename_i hs
            cases h; exact .inr (.inr (.inr ⟨rfl, by simp [isSign, hs], rfl⟩))
          · cases h
end LexS


/- Plain laws on numbers as texts: they are cut as one number. -/
namespace LexS
def decF : Nat → Nat → List UInt8
  | 0, n => [UInt8.ofNat (48 + n % 10)]
  | k + 1, n => if n < 10 then [UInt8.ofNat (48 + n)] else decF k (n / 10) ++ [UInt8.ofNat (48 + n % 10)]
/-- a number's digits -/
def dec (n : Nat) : List UInt8 := decF n n
theorem decF_fuel : ∀ (k j n : Nat), n ≤ k → n ≤ j → decF k n = decF j n
  | 0, 0, n, _, _ => rfl
  | 0, j + 1, n, h, _ => by
    obtain rfl : n = 0 := by omega
    simp [decF]
  | k + 1, 0, n, _, h => by
    obtain rfl : n = 0 := by omega
    simp [decF]
  | k + 1, j + 1, n, h1, h2 => by
    simp only [decF]
    split
    · rfl
    · rw [decF_fuel k j (n / 10) (by omega) (by omega)]
theorem dec_small {n : Nat} (h : n < 10) : dec n = [UInt8.ofNat (48 + n)] := by
  unfold dec
  cases n with
  | zero => rfl
  | succ n => simp only [decF]; rw [if_pos h]
theorem dec_big {n : Nat} (h : 10 ≤ n) : dec n = dec (n / 10) ++ [UInt8.ofNat (48 + n % 10)] := by
  unfold dec
  obtain ⟨m, rfl⟩ : ∃ m, n = m + 1 := ⟨n - 1, by omega⟩
  simp only [decF]
  rw [if_neg (by omega), decF_fuel m ((m + 1) / 10) _ (by omega) (by omega)]
theorem digit_of {d : Nat} (h : d < 10) : isDigit (UInt8.ofNat (48 + d)) = true ∧ (UInt8.ofNat (48 + d)).toNat = 48 + d := by
  have e : (UInt8.ofNat (48 + d)).toNat = 48 + d := by
    rw [UInt8.toNat_ofNat']; omega
  refine ⟨?_, e⟩
  simp only [isDigit, decide_eq_true_eq, e]; omega
theorem dec_ind (P : Nat → Prop) (h1 : ∀ n, n < 10 → P n) (h2 : ∀ n, 10 ≤ n → P (n / 10) → P n) (n : Nat) : P n := by
  induction n using Nat.strongRecOn with
  | _ n ih =>
    rcases Nat.lt_or_ge n 10 with h | h
    · exact h1 n h
    · exact h2 n h (ih (n / 10) (by omega))
theorem dec_all (n : Nat) : (dec n).all isDigit = true := by
  refine dec_ind (fun n => (dec n).all isDigit = true) (fun n h => ?_) (fun n h ih => ?_) n
  · rw [dec_small h, List.all_cons, (digit_of h).1]; rfl
  · rw [dec_big h, List.all_append, ih, List.all_cons, (digit_of (Nat.mod_lt n (by omega : 0 < 10))).1]; rfl
theorem dec_val (n : Nat) : numVal (dec n) = n := by
  refine dec_ind (fun n => numVal (dec n) = n) (fun n h => ?_) (fun n h ih => ?_) n
  · rw [dec_small h]; simp only [numVal, List.foldl_cons, List.foldl_nil, (digit_of h).2]; omega
  · rw [dec_big h, numVal_snoc, ih, (digit_of (Nat.mod_lt n (by omega : 0 < 10))).2]; omega
theorem dec_pos (n : Nat) : 1 ≤ (dec n).length := by
  refine dec_ind (fun n => 1 ≤ (dec n).length) (fun n h => ?_) (fun n h ih => ?_) n
  · rw [dec_small h]; simp
  · rw [dec_big h]; simp
theorem dec_len (k : Nat) : ∀ n, n < 10 ^ (k + 1) → (dec n).length ≤ k + 1 := by
  induction k with
  | zero => intro n h; rw [dec_small (by simpa using h)]; simp
  | succ k ih =>
    intro n h
    rcases Nat.lt_or_ge n 10 with h1 | h1
    · rw [dec_small h1]; simp
    · rw [dec_big h1]
      have := ih (n / 10) (by rw [Nat.div_lt_iff_lt_mul (by omega)]; rw [Nat.pow_succ] at h; exact h)
      simp; omega
theorem dec_head (n : Nat) : 10 ≤ n → (dec n).getD 0 0 ≠ 48 ∧ True := by
  have key : ∀ n, 1 ≤ n → (dec n).getD 0 0 ≠ 48 := by
    refine dec_ind (fun n => 1 ≤ n → (dec n).getD 0 0 ≠ 48) (fun n h h1 => ?_) (fun n h ih h1 => ?_)
    · rw [dec_small h]
      intro e
      have e2 := congrArg UInt8.toNat (by simpa using e : UInt8.ofNat (48 + n) = 48)
      rw [(digit_of h).2] at e2
      simp at e2; omega
    · rw [dec_big h]
      have hp := dec_pos (n / 10)
      have := ih (by omega)
      simp only [List.getD] at this ⊢
      rw [List.getElem?_append_left (by omega)]
      exact this
  exact fun h => ⟨key n (by omega), trivial⟩
theorem dec_lead (n : Nat) (c : UInt8) (r : List UInt8) (h : dec n = c :: r) : ¬(1 < (dec n).length ∧ c = 48) := by
  rintro ⟨h1, rfl⟩
  have h10 : 10 ≤ n := by
    rcases Nat.lt_or_ge n 10 with h2 | h2
    · rw [dec_small h2] at h1; simp at h1
    · exact h2
  exact (dec_head n h10).1 (by rw [h]; rfl)
theorem skip_dec (n : Nat) (Z : List UInt8) : skip (dec n ++ Z) = 0 := by
  have hp := dec_pos n
  have ha := dec_all n
  obtain ⟨c, r, hd⟩ : ∃ c r, dec n = c :: r := by
    match hq : dec n, hp with
    | c :: r, _ => exact ⟨c, r, rfl⟩
  have hc : isDigit c = true := by rw [hd, List.all_cons, Bool.and_eq_true] at ha; exact ha.1
  have hcn : 48 ≤ c.toNat ∧ c.toNat ≤ 57 := by simpa [isDigit] using hc
  rw [hd, List.cons_append]
  refine skip_other (by simp only [isBlank, decide_eq_false_iff_not]; omega) ?_
  cases hr : r ++ Z with
  | nil => rfl
  | cons d q =>
    simp only [isRem, decide_eq_false_iff_not]
    rintro ⟨rfl, -⟩
    simp at hcn
def sps (k : Nat) : List UInt8 := List.replicate k 32
/-- a word's text -/
def shw (w : Int) : List UInt8 := if w < 0 then 45 :: dec w.natAbs else dec w.natAbs
end LexS


/- The operators, their signs and levels: no program in sight. -/
namespace LexS
/-- the operators' signs and levels -/
def sgnT : List (List UInt8 × Int) := [([], 0), ([43], 7), ([45], 7), ([42], 8), ([47], 8), ([37], 8), ([38], 3), ([124], 1), ([94], 2), ([60, 60], 6), ([62, 62], 6), ([61, 61], 4), ([33, 61], 4), ([60], 5), ([60, 61], 5), ([62], 5), ([62, 61], 5), ([45], 9), ([33], 9)]
def sgn (k : Nat) : List UInt8 := (sgnT.getD k ([], 0)).1
def lvl (k : Nat) : Int := (sgnT.getD k ([], 0)).2
def knownOp (k : Int) : Bool := decide (0 < k ∧ k < 19)
def twoOp (k : Int) : Bool := decide (0 < k ∧ k < 17)
def shwO (k : Int) : List UInt8 := if knownOp k = true then sgn k.toNat else []
def lvlO (k : Int) : Int := if knownOp k = true then lvl k.toNat else 0
theorem shwO_len' : ∀ m, m < 19 → (sgn m).length ≤ 2 := by decide
theorem shwO_len (k : Int) : (shwO k).length ≤ 2 := by
  unfold shwO
  split
  · rename_i h
    simp [knownOp] at h
    exact shwO_len' _ (by omega)
  · simp
def oneOp (k : Int) : Bool := decide (k = 17 ∨ k = 18)
/-- the operator of two with a sign -/
def findO (s : List UInt8) : Option Nat := (List.range 19).find? fun k => twoOp (k : Int) && decide (sgn k = s)
end LexS


namespace Go.Proofs.YtnmhlpnapgojjaaGreatDoor
open Go.RowKit Sx LexS _root_.Go.Proofs.Tryz
/-- the table of signs lies where the program has it -/
def Sig (w : World) : Prop := ∀ k, k < 19 → w.cell? ⟨0, k * 2, none⟩ = some (str (sgn k)) ∧ w.cell? ⟨0, k * 2 + 1, none⟩ = some (.int .i64 (lvl k))
theorem Sig.kept {w w' : World} (h : Sig w) (c : Chg [] w w') : Sig w' := fun k hk => ⟨c.cell (h k hk).1 (by simp), c.cell (h k hk).2 (by simp)⟩

theorem known_any (k : Int) (w : World) : Ret Tryz.prog 157 [.int .u8 k] w fun v w' => v = .bool (knownOp k) ∧ w' = w := by
 refine ret_of [_] func157 rfl ntmps157 rfl ?_
 have st := St.init w []
 refine sr ?_
 refine ya ?_
 refine et (vk1 0 (sr ?_))
 refine ym ?_
 refine vy (y_gtr rfl rfl) ?_
 refine vmb ?_ ?_
 intro hg5
 try simp only [dn] at hg5
 refine ym ?_
 refine vy (y_lss rfl rfl) ?_
 refine ypt ?_
 rotate_left
 intro hg5
 try simp only [dn] at hg5
 iterate 2 refine vsk ?_
 refine ypf ?_
 all_goals
  refine ya ?_
  refine et (vk1 2 (vc_ret ?_))
  refine vr1 st results157 ?_
  refine ⟨?_, rfl⟩
  congr 1
  unfold knownOp
  (symm; simp; omega)
theorem two_any (k : Int) (w : World) : Ret Tryz.prog 104 [.int .u8 k] w fun v w' => v = .bool (twoOp k) ∧ w' = w := by
 refine ret_of [_] func104 rfl ntmps104 rfl ?_
 have st := St.init w []
 refine sr ?_
 refine ya ?_
 refine et (vk1 0 (sr ?_))
 refine ym ?_
 refine vc_e (e_call [_] rfl rfl call157 rfl (known_any _ _) ?_)
 rintro _ _ ⟨rfl, rfl⟩
 refine vmb ?_ ?_
 focus
  intro hg5
  refine ym ?_
  refine vy (y_nei rfl rfl) ?_
  refine ypt ?_
  refine vmb ?_ ?_
  intro hg9
  refine ym ?_
  refine vy (y_nei rfl rfl) ?_
  refine ypt ?_
  rotate_left
  intro hg9
  iterate 2 refine vsk ?_
  refine ypf ?_
 rotate_left 2
 intro hg5
 iterate 2 refine vsk ?_
 refine ypf ?_
 refine ym ?_
 iterate 2 refine vsk ?_
 refine ypf ?_
 all_goals
  refine ya ?_
  refine et (vk1 2 (vc_ret ?_))
  refine vr1 st results104 ?_
  refine ⟨?_, rfl⟩
  show Value.bool _ = Value.bool _
  congr 1
  unfold knownOp at *
  unfold twoOp
  simp only [decide_eq_true_eq, decide_eq_false_iff_not, Bool.not_eq_true', Bool.not_eq_false'] at *
  first | (symm; rw [decide_eq_false_iff_not]; omega) | (rw [Bool.eq_iff_iff]; simp only [Bool.not_eq_true', decide_eq_false_iff_not, decide_eq_true_eq]; omega)
theorem show_any (k : Int) (w : World) (hs : Sig w) : Ret Tryz.prog 107 [.int .u8 k] w fun v w' => v = str (if knownOp k = true then sgn k.toNat else []) ∧ w' = w := by
 refine ret_of [_] func107 rfl ntmps107 rfl ?_
 have st := St.init w []
 refine sr ?_
 refine ya ?_
 refine et (vk1 0 (vc_seq (sr ?_)))
 refine ym ?_
 refine vc_e (e_call [_] rfl rfl call157 rfl (known_any _ _) ?_)
 rintro _ _ ⟨rfl, rfl⟩
 refine vy (y_not rfl) ?_
 refine et (vk2 0 5 ?_)
 refine vif ?_ ?_
 ·intro hc5
  refine sr ?_
  refine ya ?_
  refine et (vk1 2 (vc_ret (vq_then_ret ?_)))
  refine vr1 st results107 ?_
  refine ⟨?_, rfl⟩
  rw [if_neg (by simpa using hc5)]
 intro hc5
 have hk : 0 < k ∧ k < 19 := by simpa [knownOp] using hc5
 obtain ⟨m, rfl⟩ : ∃ m : Nat, k = (m : Int) := ⟨k.toNat, by omega⟩
 refine kt (vk1 0 (sr ?_))
 refine ym ?_
 refine vy (y_iaa (k := m) rfl rfl underlying204 sizeOf203 rfl (by omega)) ?_
 refine vy (y_fa0 rfl underlying203 rfl rfl sizeOf9 rfl) ?_
 refine vy ((by exact y_ldc rfl isAgg9 (by have h := (hs m (by omega)).1; rw [Nat.zero_add]; exact h))) ?_
 refine ya ?_
 refine et (vk1 2 (vc_ret ?_))
 refine vr1 st results107 ?_
 refine ⟨?_, rfl⟩
 rw [if_pos (by simpa using hc5)]
 rfl
abbrev zs (k : Nat) : List Value := List.replicate k (.int .u8 0)
theorem zs_set (k : Nat) (t : List UInt8) (c : UInt8) (x : Int) (hx : (c.toNat : Int) = x) (hk : 0 < k) : (zs k ++ bytesL t).set (k - 1) (.int .u8 x) = zs (k - 1) ++ bytesL (c :: t) := by
 obtain ⟨m, rfl⟩ : ∃ m, k = m + 1 := ⟨k - 1, by omega⟩
 have e : zs (m + 1) = zs m ++ [.int .u8 0] := by simp [zs, List.replicate_succ']
 rw [e, Nat.add_sub_cancel, List.append_assoc, List.set_append_right _ _ (by simp)]
 subst hx
 simp
theorem zs_len (k : Nat) (t : List UInt8) : (zs k ++ bytesL t).length = k + t.length := by simp
theorem blk_rd {w : World} {b k E : Nat} {t : List UInt8} {c : Nat} (h : w.heap[b]? = some (.cells (zs k ++ bytesL t).toArray E (0, 0))) : RdRowP w (some ⟨b, 0 + k * 1, none⟩) c (bytesL t) :=
 .inr ⟨b, 0 + k * 1, rfl, fun j u hj => cell_blk h (by
   rw [nth_eq, List.getElem?_append_right (by simp)]
   simpa [show 0 + k * 1 + j - k = j by omega] using hj)⟩

set_option maxHeartbeats 1000000 in
theorem wprint_any (x : Int) (w : World) (hx : -9223372036854775808 ≤ x ∧ x ≤ 9223372036854775807) : Ret Tryz.prog 76 [.int .i64 x] w fun v w' => v = str (shw x) ∧ Chg [] w w' := by
 refine ret_of [_] func76 rfl ntmps76 rfl ?_
 have st := St.init w []
 obtain ⟨w0, rfl⟩ : ∃ w0, w0 = w := ⟨_, rfl⟩
 have hdl := dec_len 18 x.natAbs (by simp only [Nat.reducePow, Nat.reduceAdd]; omega)
 refine sr ?_
 refine ya ?_
 refine et (vk1 0 (sr ?_))
 refine vc_e (e_al (l := [_, _, _, _, _, _, _, _, _, _, _, _, _, _, _, _, _, _, _, _]) st rfl rfl zeroValue181 rfl ?_)
 intro b3 w hb3 st
 refine et (vk2 0 3 (sr ?_))
 refine ya ?_
 refine et (vk3 0 3 4 (sr ?_))
 refine ym ?_
 refine vy (y_cvi rfl underlying182 underlying2 (rfl : _ = IntKind.u64.wrap x)) ?_
 refine ya ?_
 refine et (vk4 0 3 4 5 ?_)
 refine vc_cut (w0 := w0) (M := []) (fun (_ : Unit) => [(0, .int .i64 x), (3, .pointer (some ⟨b3, 0, none⟩)), (4, .int .i64 20), (5, .int .u64 (x.natAbs : Int))]) (fun _ => [.blk b3 (.cells (zs 20 ++ bytesL []).toArray 181 (0, 0))]) (fun _ _ => True) ?_ ?_
 ·refine vc_seq ?_
  refine vc_region ?_
  refine ym ?_
  refine vy (y_lss rfl rfl) ?_
  refine et (vk5 0 3 4 5 9 ?_)
  refine vif ?_ ?_
  ·intro hc9
   try simp only [dn] at hc9
   refine vc_region ?_
   refine ym ?_
   refine vy (y_neg rfl (by rw [wrap_u64, wrap_u64]; omega : _ = (x.natAbs : Int))) ?_
   refine ya ?_
   refine vc_end ?_
   exact vq_meet () ⟨rfl, rfl, rfl, rfl, trivial⟩ st trivial
  intro hc9
  try simp only [dn] at hc9
  refine vc_code_skip ?_
  exact vq_meet () ⟨rfl, rfl, rfl, by simp only [find, Nat.beq]; congr 2; rw [wrap_u64]; omega, trivial⟩ st trivial
 clear st
 rintro ⟨⟩ w - st
 refine vc_seq (vc_block ?_)
 refine vc_loop (w0 := _) (M := _) (fun (y : Nat × Nat × List UInt8) => [(0, .int .i64 x), (3, .pointer (some ⟨b3, 0, none⟩)), (4, .int .i64 (y.1 : Int)), (5, .int .u64 (y.2.1 : Int))]) (fun y => [.blk b3 (.cells (zs y.1 ++ bytesL y.2.2).toArray 181 (0, 0))]) (fun y _ => y.1 + y.2.2.length = 20 ∧ dec y.2.1 ++ y.2.2 = dec x.natAbs ∧ y.2.1 ≤ x.natAbs) (fun y => y.1) (20, x.natAbs, []) ⟨rfl, rfl, rfl, rfl, trivial⟩ st ⟨rfl, by simp, by simp⟩ ?_
 rintro ⟨at_, n, t⟩ w ⟨hat, hdec, hnx⟩ st
 dsimp only at *
 have hdp := dec_pos n
 have hlen := congrArg List.length hdec
 rw [List.length_append] at hlen
 obtain ⟨hdg1, hdg2⟩ := digit_of (Nat.mod_lt n (by omega : 0 < 10))
 refine vc_block (sr ?_)
 refine ym ?_
 refine vy (y_sub rfl rfl (by omega : _ = ((at_ - 1 : Nat) : Int)) (by omega) (by omega)) ?_
 refine ya ?_
 refine et (vk4 0 3 4 5 (sr ?_))
 iterate 2 refine ym ?_
 refine vy (y_remk rfl rfl (by omega) (by omega) (by omega : _ = ((n % 10 : Nat) : Int))) ?_
 refine vy (y_addk rfl rfl (by rw [wrap_u64]; omega : _ = ((48 + n % 10 : Nat) : Int))) ?_
 refine vy (y_cvi rfl underlying5 underlying182 (by rw [wrap_u8]; omega : _ = ((48 + n % 10 : Nat) : Int))) ?_
 refine vy (y_iaa (k := (at_ - 1)) rfl rfl underlying181 sizeOf5 rfl (by omega)) ?_
 refine vc_e (e_sta (l' := zs (at_ - 1) ++ bytesL (UInt8.ofNat (48 + n % 10) :: t)) st 0 rfl rfl rfl rfl sizeOf5 rfl (by rw [zs_len]; omega) (by rw [show 0 + (at_ - 1) * 1 = at_ - 1 by omega]; exact zs_set at_ t (UInt8.ofNat (48 + n % 10)) _ (by rw [hdg2]) (by omega)) (.inr hb3) ?_)
 intro w st; dsimp only [setNth] at st
 refine et (vk4 0 3 4 5 (sr ?_))
 refine ym ?_
 refine vy (y_quok rfl rfl (by omega) (by omega) (by rw [wrap_u64]; omega : _ = ((n / 10 : Nat) : Int))) ?_
 refine ya ?_
 refine et (vk4 0 3 4 5 (sr ?_))
 refine ym ?_
 refine vy (y_eqi rfl rfl) ?_
 refine et (vk5 0 3 4 5 23 ?_)
 refine vif ?_ ?_
 ·intro hc23
  try simp only [dn] at hc23
  have hn : n < 10 := by omega
  have hfin : UInt8.ofNat (48 + n % 10) :: t = dec x.natAbs := by rw [← hdec, dec_small hn, Nat.mod_eq_of_lt hn]; rfl
  rw [hfin] at st
  have hlen2 := congrArg List.length hfin
  simp only [List.length_cons] at hlen2
  refine vc_exit (vq_block_other rfl (vq_then_exit (vq_block_exit (vq_then (vk3 0 3 4 (vc_seq (sr ?_)))))))
  refine ym ?_
  refine vy (y_lss rfl rfl) ?_
  refine et (vk3 3 4 25 ?_)
  refine vif ?_ ?_
  ·intro hc25
   try simp only [dn] at hc25
   refine sr ?_
   refine ym ?_
   refine vy (y_sub rfl rfl (by omega : _ = ((at_ - 2 : Nat) : Int)) (by omega) (by omega)) ?_
   refine ya ?_
   refine et (vk2 3 4 (vc_region ?_))
   refine ym ?_
   refine vy (y_iaa (k := (at_ - 2)) rfl rfl underlying181 sizeOf5 rfl (by omega)) ?_
   refine vc_e (e_sta (l' := zs (at_ - 2) ++ bytesL (45 :: dec x.natAbs)) st 0 rfl rfl rfl rfl sizeOf5 rfl (by rw [zs_len]; omega) (by rw [show 0 + (at_ - 2) * 1 = (at_ - 1) - 1 by omega]; have := zs_set (at_ - 1) (dec x.natAbs) 45 45 (by rfl) (by omega); rw [show at_ - 1 - 1 = at_ - 2 by omega] at this ⊢; exact this) (.inr hb3) ?_)
   intro w st; dsimp only [setNth] at st
   refine et (vk2 3 4 (sr ?_))
   refine ym ?_
   refine vy (y_sla (i := _) rfl rfl underlying181 sizeOf5 rfl (by omega)) ?_
   refine vy (y_b2s rfl (blk_rd (st.res (i := 0) rfl)) (by (simp only [List.length_cons]; omega)) underlying78 underlying5 underlying9) ?_
   refine ya ?_
   refine et (vk1 2 (vc_ret ?_))
   refine vr1 st results76 ?_
   refine ⟨?_, st.chg⟩
   unfold shw
   rw [if_pos (by omega)]
  intro hc25
  try simp only [dn] at hc25
  refine kt (vk2 3 4 (sr ?_))
  refine ym ?_
  refine vy (y_sla (i := _) rfl rfl underlying181 sizeOf5 rfl (by omega)) ?_
  refine vy (y_b2s rfl (blk_rd (st.res (i := 0) rfl)) (by omega) underlying78 underlying5 underlying9) ?_
  refine ya ?_
  refine et (vk1 2 (vc_ret ?_))
  refine vr1 st results76 ?_
  refine ⟨?_, st.chg⟩
  unfold shw
  rw [if_neg (by omega)]
 intro hc23
 try simp only [dn] at hc23
 refine vc_code_skip (vq_block ?_)
 refine vq_again (at_ - 1, n / 10, UInt8.ofNat (48 + n % 10) :: t)  ⟨rfl, rfl, rfl, rfl, trivial⟩ st ?_ ?_
 ·refine ⟨by simp; omega, ?_, by dsimp only; omega⟩
  dsimp only
  rw [← hdec, dec_big (n := n) (by omega)]; simp
 dsimp only; omega
end Go.Proofs.YtnmhlpnapgojjaaGreatDoor


namespace Go.Proofs.YtnmhlpnapgojjaaGreatDoor
open Go.RowKit Sx LexS _root_.Go.Proofs.Tryz
theorem cell_nth {w : World} {b off E : Nat} {l : List Value} {v : Value} (h : w.heap[b]? = some (.cells l.toArray E (0, 0))) (hv : nth l off = some v) : w.cell? ⟨b, off, none⟩ = some v := cell_blk h hv

theorem level_any (k : Int) (w : World) (hs : Sig w) : Ret Tryz.prog 105 [.int .u8 k] w fun v w' => v = .int .i64 (lvlO k) ∧ w' = w := by
 refine ret_of [_] func105 rfl ntmps105 rfl ?_
 have st := St.init w []
 refine sr ?_
 refine ya ?_
 refine et (vk1 0 (vc_seq (sr ?_)))
 refine ym ?_
 refine vc_e (e_call [_] rfl rfl call157 rfl (known_any _ _) ?_)
 rintro _ _ ⟨rfl, rfl⟩
 refine vy (y_not rfl) ?_
 refine et (vk2 0 5 ?_)
 refine vif ?_ ?_
 ·intro hc5
  refine sr ?_
  refine ya ?_
  refine et (vk1 2 (vc_ret (vq_then_ret ?_)))
  refine vr1 st results105 ?_
  refine ⟨?_, rfl⟩
  unfold lvlO
  rw [if_neg (by simpa using hc5)]
 intro hc5
 have hk : 0 < k ∧ k < 19 := by simpa [knownOp] using hc5
 obtain ⟨m, rfl⟩ : ∃ m : Nat, k = (m : Int) := ⟨k.toNat, by omega⟩
 refine kt (vk1 0 (sr ?_))
 refine ym ?_
 refine vy (y_iaa (k := m) rfl rfl underlying204 sizeOf203 rfl (by omega)) ?_
 refine vy (y_fa (k := 1) rfl underlying203 rfl rfl sizeOf3 rfl) ?_
 refine vy ((by exact y_ldc rfl isAgg3 (by have h := (hs m (by omega)).2; rw [Nat.zero_add]; exact h))) ?_
 refine ya ?_
 refine et (vk1 2 (vc_ret ?_))
 refine vr1 st results105 ?_
 refine ⟨?_, rfl⟩
 unfold lvlO
 rw [if_pos (by simpa using hc5)]
 rfl
theorem named_any (l : List UInt8) (b : Bool) (w : World) : Ret Tryz.prog 149 [str l, .bool b] w fun v w' => v = .bool (if b = true then isName l else decide (l = [])) ∧ w' = w := by
 refine ret_of [_, _] func149 rfl ntmps149 rfl ?_
 have st := St.init w []
 refine sr ?_
 refine ya ?_
 refine et (vk2 0 1 (sr ?_))
 refine ym ?_
 refine vmb ?_ ?_
 focus
  intro hg6
  refine ym ?_
  refine vc_e (e_call [_] rfl rfl call52 rfl (name_any _ _) ?_)
  rintro _ _ ⟨rfl, rfl⟩
  refine ypt ?_
  refine vmb ?_ ?_
  intro hg10
  iterate 6 refine vsk ?_
  refine ypt ?_
  rotate_left
  focus
   intro hg10
   refine ym ?_
   refine vy (y_not rfl) ?_
   refine vmb ?_ ?_
   intro hg13
   refine ym ?_
   refine vy (y_eqs rfl rfl) ?_
   refine ypt ?_
   rotate_left
   intro hg13
   iterate 2 refine vsk ?_
   refine ypf ?_
   all_goals
    refine ypf ?_
 rotate_left 3
 focus
  intro hg6
  iterate 2 refine vsk ?_
  refine ypf ?_
  iterate 2 refine ym ?_
  refine vy (y_not rfl) ?_
  refine vmb ?_ ?_
  intro hg13
  refine ym ?_
  refine vy (y_eqs rfl rfl) ?_
  refine ypt ?_
  rotate_left
  intro hg13
  iterate 2 refine vsk ?_
  refine ypf ?_
  all_goals
   refine ypf ?_
 all_goals
  refine ya ?_
  refine et (vk1 4 (vc_ret ?_))
  refine vr1 st results149 ?_
  refine ⟨?_, rfl⟩
  show Value.bool _ = Value.bool _
  congr 1
  cases b <;> simp_all
end Go.Proofs.YtnmhlpnapgojjaaGreatDoor


/- When a tree may be written, and its text: no program in sight. -/
namespace LexS
open Sx
/-! ## when a tree may be written, and its text -/
/-- does a kid of a binary expression stand in parentheses? -/
def inn (op : Int) (x : Ex) (second : Bool) : Bool := decide (x.k = 4) && (decide (lvlO x.op < lvlO op) || second && decide (lvlO x.op = lvlO op))
def rightE : Ex → Nat → Bool
  | .mk k op wd nm kids a, d => decide (d ≤ 64) && (
    if k = 1 then decide (0 ≤ wd ∧ op = 0 ∧ nm = [] ∧ kids.length = 0)
    else if k = 2 then isName nm && decide (op = 0 ∧ wd = 0 ∧ kids.length = 0)
    else if k = 3 then oneOp op && decide (wd = 0 ∧ nm = []) && (match kids with | [x] => rightE x (if x.k = 4 then d + 2 else d + 1) | _ => false)
    else if k = 4 then twoOp op && decide (wd = 0 ∧ nm = []) && (match kids with | [x, y] => rightE x (if inn op x false = true then d + 1 else d) && rightE y (if inn op y true = true then d + 1 else d) | _ => false)
    else false)
def par (b : Bool) (l : List UInt8) : List UInt8 := if b = true then [40] ++ l ++ [41] else l
def txtE : Ex → List UInt8
  | .mk k op wd nm kids a => if k = 1 then shw wd else if k = 2 then nm else if k = 3 then shwO op ++ (match kids with | [x] => par (decide (x.k = 4)) (txtE x) | _ => [])
    else (match kids with | [x, y] => par (inn op x false) (txtE x) ++ ([32] ++ shwO op ++ [32]) ++ par (inn op y true) (txtE y) | _ => [])
def mar (d : Nat) : List UInt8 := List.replicate (2 * d) 32
def hasN (k : Int) : Bool := decide (k = 1 ∨ k = 2 ∨ k = 5)
def hasE (k : Int) : Bool := decide (k = 1 ∨ k = 2 ∨ k = 3 ∨ k = 4 ∨ k = 6)
def hasB (k : Int) : Bool := decide (k = 3 ∨ k = 4 ∨ k = 5)
def nmOk (b : Bool) (l : List UInt8) : Bool := if b = true then isName l else decide (l = [])
def rightX (b : Bool) (e : List Ex) : Bool := if b = true then (match e with | [x] => rightE x 0 | _ => false) else decide (e.length = 0)
mutual
def rightS : Sm → Nat → Bool
  | .mk k nm other e body els a, d => decide (1 ≤ k ∧ k ≤ 7) && nmOk (hasN k) nm && nmOk (decide (k = 2)) other && rightX (hasE k) e && (hasB k || decide (body.length = 0)) && (decide (k = 3) || decide (els.length = 0)) &&
    (!(hasB k || decide (0 < els.length)) || decide (d < 64)) && rightSs body (d + 1) && rightSs els (d + 1)
termination_by structural s => s
def rightSs : List Sm → Nat → Bool
  | [], _ => true
  | s :: r, d => rightS s d && rightSs r d
termination_by structural l => l
end
def txX (e : List Ex) : List UInt8 := match e with | x :: _ => txtE x | [] => []
mutual
def txtS : Sm → Nat → List UInt8
  | .mk k nm other e body els a, d =>
    if k = 1 then mar d ++ (nm ++ [32, 61, 32] ++ txX e ++ [59, 10])
    else if k = 2 then mar d ++ (nm ++ [32, 61, 32, 115, 119, 97, 112, 40] ++ other ++ [44, 32] ++ txX e ++ [41, 59, 10])
    else if k = 6 then mar d ++ ([112, 114, 105, 110, 116, 32] ++ txX e ++ [59, 10])
    else if k = 7 then mar d ++ [115, 107, 105, 112, 59, 10]
    else if k = 5 then mar d ++ ([108, 111, 99, 107, 32] ++ nm ++ [32, 123, 10]) ++ txtSs body (d + 1) ++ mar d ++ [125, 10]
    else mar d ++ ((if k = 4 then [119, 104, 105, 108, 101, 32, 40] else [105, 102, 32, 40]) ++ txX e ++ [41, 32, 123, 10]) ++ txtSs body (d + 1) ++ (if 0 < els.length then mar d ++ [125, 32, 101, 108, 115, 101, 32, 123, 10] ++ txtSs els (d + 1) else []) ++ mar d ++ [125, 10]
termination_by structural s => s
def txtSs : List Sm → Nat → List UInt8
  | [], _ => []
  | s :: r, d => txtS s d ++ txtSs r d
termination_by structural l => l
end
def dcOk (shared : Bool) (x : Dc) : Bool := isName x.nm && (if shared = true then decide (x.wd ≠ -9223372036854775808) else decide (x.wd = 0))
def thOk (t : Th) : Bool := isName t.nm && t.locals.all (dcOk false) && rightSs t.body 1
def pgOk (p : Pg) : Bool := p.shared.all (dcOk true) && p.locks.all (dcOk false) && p.threads.all thOk
def dcT (x : Dc) : List UInt8 := x.nm ++ (if x.wd = 0 then [] else [32, 61, 32] ++ shw x.wd)
/-- ', ' between -/
def joinC : List (List UInt8) → List UInt8
  | [] => []
  | [x] => x
  | x :: y :: r => x ++ [44, 32] ++ joinC (y :: r)
def dcsT (word : List UInt8) (d : Nat) (l : List Dc) : List UInt8 := if l.length = 0 then [] else mar d ++ (word ++ [32] ++ joinC (l.map dcT) ++ [59, 10])
def thT (t : Th) : List UInt8 := ([116, 104, 114, 101, 97, 100, 32] ++ t.nm ++ [32, 123, 10]) ++ dcsT [108, 111, 99, 97, 108] 1 t.locals ++ txtSs t.body 1 ++ [125, 10]
def pgT (p : Pg) : List UInt8 := dcsT [115, 104, 97, 114, 101, 100] 0 p.shared ++ dcsT [108, 111, 99, 107] 0 p.locks ++ (p.threads.map thT).flatten
def pgRes (p : Pg) : List UInt8 × Nat := if pgOk p = true then (if (pgT p).length ≤ 65536 then (pgT p, 0) else ([], 4)) else ([], 40)
end LexS


namespace Go.Proofs.YtnmhlpnapgojjaaGreatDoor
open Go.RowKit Sx LexS _root_.Go.Proofs.Tryz
theorem rightE_le {e : Ex} {d : Nat} (h : rightE e d = true) : d ≤ 64 := by
 cases e
 unfold rightE at h
 simp only [Bool.and_eq_true, decide_eq_true_eq] at h
 exact h.1
theorem rightSs_get : ∀ {l : List Sm} {d j : Nat} {s : Sm}, rightSs l d = true → l[j]? = some s → rightS s d = true
 | [], d, j, s, _, h => by simp at h
 | x :: r, d, 0, s, h, hj => by
  simp only [List.getElem?_cons_zero, Option.some.injEq] at hj
  subst hj
  simp only [rightSs, Bool.and_eq_true] at h
  exact h.1
 | x :: r, d, j + 1, s, h, hj => by
  simp only [rightSs, Bool.and_eq_true] at h
  exact rightSs_get h.2 (by simpa using hj)
theorem rightSs_no : ∀ {l : List Sm} {d j : Nat} {s : Sm}, rightS s d = false → l[j]? = some s → rightSs l d = false
 | [], d, j, s, _, h => by simp at h
 | x :: r, d, 0, s, h, hj => by
  simp only [List.getElem?_cons_zero, Option.some.injEq] at hj
  subst hj
  simp [rightSs, h]
 | x :: r, d, j + 1, s, h, hj => by
  simp [rightSs, rightSs_no h (by simpa using hj : r[j]? = some s)]
/-! ## reading rows -/
theorem RowC.at {w : World} {S : Nat → Prop} {sz n : Nat} {oa : Option Addr} {vs : Nat → List Value} (h : RowC w S sz oa n vs) (hn : 0 < n) :
    ∃ b off, oa = some ⟨b, off, none⟩ ∧ S b ∧ b < w.heap.size ∧ ∀ j, j < n → (vs j).length = sz ∧ ∀ i v, (vs j)[i]? = some v → w.cell? ⟨b, off + j * sz + i, none⟩ = some v := by
 rcases h with h | h
 ·omega
 ·exact h
abbrev szo {α : Type} [SizeOf α] (x : α) : Nat := SizeOf.sizeOf x
theorem ex_size {k op wd : Int} {nm : List UInt8} {kids : List Ex} {a : Int} : szo kids < szo (Ex.mk k op wd nm kids a) := by
 simp only [szo, Ex.mk.sizeOf_spec]; omega
theorem mem_size {α : Type} [SizeOf α] {l : List α} {j : Nat} {x : α} (h : l[j]? = some x) : szo x < szo l := List.sizeOf_lt_of_mem (List.mem_of_getElem? h)
theorem sm_size {k : Int} {nm other : List UInt8} {e : List Ex} {body els : List Sm} {a : Int} : szo body < szo (Sm.mk k nm other e body els a) ∧ szo els < szo (Sm.mk k nm other e body els a) := by
 simp only [szo, Sm.mk.sizeOf_spec]; omega
section
variable {w w' : World} {S : Nat → Prop} {M : List Nat}
/-- an expression's value -/
abbrev exL (e : Ex) (oa : Option Addr) (cap : Nat) : List Value := [.int .u8 e.k, .int .u8 e.op, .int .i64 e.wd, str e.nm, .slice oa e.kids.length cap, .int .i64 e.a]
theorem ExV.inv {e : Ex} {l : List Value} (h : ExV w S e l) : ∃ oa cap, l = exL e oa cap ∧ ExRow w S oa e.kids := by
 cases h with
 | mk vs hr hk => exact ⟨_, _, rfl, vs, hr, hk⟩
theorem ExRow.at {oa : Option Addr} {es : List Ex} (h : ExRow w S oa es) (hn : 0 < es.length) : ∃ b off, oa = some ⟨b, off, none⟩ ∧ S b ∧ b < w.heap.size ∧
    ∀ j x, es[j]? = some x → ∃ o c, ExV w S x (exL x o c) ∧ ExRow w S o x.kids ∧ ∀ i v, (exL x o c)[i]? = some v → w.cell? ⟨b, off + j * 6 + i, none⟩ = some v := by
 obtain ⟨vs, hr, hk⟩ := h
 obtain ⟨b, off, e, hb, hl, hc⟩ := RowC.at hr hn
 refine ⟨b, off, e, hb, hl, fun j x hx => ?_⟩
 have hx' := hk j x hx
 obtain ⟨o, c, e2, hr2⟩ := ExV.inv hx'
 have := (hc j (List.getElem?_eq_some_iff.1 hx).1).2
 rw [e2] at hx' this
 exact ⟨o, c, hx', hr2, this⟩
/-- a statement's value -/
abbrev smL (s : Sm) (oe ob ol : Option Addr) (ce cb cl : Nat) : List Value := [.int .u8 s.k, str s.nm, str s.other, .slice oe s.e.length ce, .slice ob s.body.length cb, .slice ol s.els.length cl, .int .i64 s.a]
theorem SmV.inv {s : Sm} {l : List Value} (h : SmV w S s l) : ∃ oe ob ol ce cb cl, l = smL s oe ob ol ce cb cl ∧ ExRow w S oe s.e ∧ SmRow w S ob s.body ∧ SmRow w S ol s.els := by
 cases h with
 | mk vb vl he hb hbk hl hlk => exact ⟨_, _, _, _, _, _, rfl, he, ⟨vb, hb, hbk⟩, ⟨vl, hl, hlk⟩⟩
theorem SmRow.at {oa : Option Addr} {es : List Sm} (h : SmRow w S oa es) (hn : 0 < es.length) : ∃ b off, oa = some ⟨b, off, none⟩ ∧ S b ∧ b < w.heap.size ∧
    ∀ j s, es[j]? = some s → ∃ oe ob ol ce cb cl, SmV w S s (smL s oe ob ol ce cb cl) ∧ ExRow w S oe s.e ∧ SmRow w S ob s.body ∧ SmRow w S ol s.els ∧ ∀ i v, (smL s oe ob ol ce cb cl)[i]? = some v → w.cell? ⟨b, off + j * 7 + i, none⟩ = some v := by
 obtain ⟨vs, hr, hk⟩ := h
 obtain ⟨b, off, e, hb, hl, hc⟩ := RowC.at hr hn
 refine ⟨b, off, e, hb, hl, fun j x hx => ?_⟩
 have hx' := hk j x hx
 obtain ⟨oe, ob, ol, ce, cb, cl, e2, h1, h2, h3⟩ := SmV.inv hx'
 have := (hc j (List.getElem?_eq_some_iff.1 hx).1).2
 rw [e2] at hx' this
 exact ⟨oe, ob, ol, ce, cb, cl, hx', h1, h2, h3, this⟩
theorem DcRow.at {oa : Option Addr} {ds : List Dc} (h : DcRow w S oa ds) (hn : 0 < ds.length) : ∃ b off, oa = some ⟨b, off, none⟩ ∧ S b ∧ b < w.heap.size ∧
    ∀ j x, ds[j]? = some x → ∀ i v, (dcL x)[i]? = some v → w.cell? ⟨b, off + j * 3 + i, none⟩ = some v := by
 obtain ⟨b, off, e, hb, hl, hc⟩ := RowC.at h hn
 refine ⟨b, off, e, hb, hl, fun j x hx => ?_⟩
 have hj := (List.getElem?_eq_some_iff.1 hx).1
 have := (hc j hj).2
 simp only [List.getD, hx, Option.getD_some] at this
 exact this
abbrev thL (t : Th) (ol ob : Option Addr) (cl cb : Nat) : List Value := [str t.nm, .slice ol t.locals.length cl, .slice ob t.body.length cb, .int .i64 t.a]
theorem ThRow.at {oa : Option Addr} {ts : List Th} (h : ThRow w S oa ts) (hn : 0 < ts.length) : ∃ b off, oa = some ⟨b, off, none⟩ ∧ S b ∧ b < w.heap.size ∧
    ∀ j t, ts[j]? = some t → ∃ ol ob cl cb, DcRow w S ol t.locals ∧ SmRow w S ob t.body ∧ ∀ i v, (thL t ol ob cl cb)[i]? = some v → w.cell? ⟨b, off + j * 4 + i, none⟩ = some v := by
 obtain ⟨vs, hr, hk⟩ := h
 obtain ⟨b, off, e, hb, hl, hc⟩ := RowC.at hr hn
 refine ⟨b, off, e, hb, hl, fun j x hx => ?_⟩
 obtain ⟨ol, cl, ob, cb, e2, h1, h2⟩ := hk j x hx
 have := (hc j (List.getElem?_eq_some_iff.1 hx).1).2
 rw [e2] at this
 exact ⟨ol, ob, cl, cb, h1, h2, this⟩
theorem Sig.kept' (h : Sig w) (c : Chg M w w') (hm : 0 ∉ M) : Sig w' := fun k hk => ⟨c.cell (h k hk).1 (by simpa using hm), c.cell (h k hk).2 (by simpa using hm)⟩
end
theorem get0 {α : Type} {l : List α} {n : Nat} (h : l.length = n) (hn : 0 < n) : ∃ x, l[0]? = some x := by
 cases l with
 | nil => simp at h; omega
 | cons x r => exact ⟨x, rfl⟩
theorem one_form {α : Type} {l : List α} {x : α} (h : l.length = 1) (h0 : l[0]? = some x) : l = [x] := by
 match l, h with
 | [y], _ => simp at h0; rw [h0]
theorem two_form {α : Type} {l : List α} {x y : α} (h : l.length = 2) (h0 : l[0]? = some x) (h1 : l[1]? = some y) : l = [x, y] := by
 match l, h with
 | [a, b], _ => simp at h0 h1; rw [h0, h1]
theorem get1 {α : Type} {l : List α} (h : l.length = 2) : ∃ x, l[1]? = some x := by
 match l, h with
 | [a, b], _ => exact ⟨b, rfl⟩
theorem rightE_1 {e : Ex} {d : Nat} (h : e.k = 1) (hd : d ≤ 64) : rightE e d = decide (0 ≤ e.wd ∧ e.op = 0 ∧ e.nm = [] ∧ e.kids.length = 0) := by
 cases e; simp only [Ex.k] at h; subst h; unfold rightE; simp [hd, Ex.wd, Ex.op, Ex.nm, Ex.kids]
theorem rightE_2 {e : Ex} {d : Nat} (h : e.k = 2) (hd : d ≤ 64) : rightE e d = (isName e.nm && decide (e.op = 0 ∧ e.wd = 0 ∧ e.kids.length = 0)) := by
 cases e; simp only [Ex.k] at h; subst h; unfold rightE; simp [hd, Ex.wd, Ex.op, Ex.nm, Ex.kids]
theorem rightE_3 {e x : Ex} {d : Nat} (h : e.k = 3) (hd : d ≤ 64) (hx : e.kids = [x]) : rightE e d = (oneOp e.op && decide (e.wd = 0 ∧ e.nm = []) && rightE x (if x.k = 4 then d + 2 else d + 1)) := by
 cases e with
 | mk k op wd nm kids a =>
  change k = 3 at h; change kids = [x] at hx; subst h hx
  show rightE (.mk 3 op wd nm [x] a) d = (oneOp op && decide (wd = 0 ∧ nm = []) && rightE x (if x.k = 4 then d + 2 else d + 1))
  rw [rightE]; simp [hd]
theorem rightE_3n {e : Ex} {d : Nat} (h : e.k = 3) (hx : e.kids.length ≠ 1 ∨ oneOp e.op = false ∨ e.wd ≠ 0 ∨ e.nm ≠ []) : rightE e d = false := by
 cases e with
 | mk k op wd nm kids a =>
  simp only [Ex.k] at h; subst h
  simp only [Ex.kids, Ex.op, Ex.wd, Ex.nm] at hx
  rcases kids with _ | ⟨x, _ | ⟨y, _ | ⟨z, r⟩⟩⟩ <;> rw [rightE] <;> rcases hx with h | h | h | h <;> simp_all
theorem rightE_4 {e x y : Ex} {d : Nat} (h : e.k = 4) (hd : d ≤ 64) (hx : e.kids = [x, y]) : rightE e d = (twoOp e.op && decide (e.wd = 0 ∧ e.nm = []) && (rightE x (if inn e.op x false = true then d + 1 else d) && rightE y (if inn e.op y true = true then d + 1 else d))) := by
 cases e with
 | mk k op wd nm kids a =>
  change k = 4 at h; change kids = [x, y] at hx; subst h hx
  show rightE (.mk 4 op wd nm [x, y] a) d = (twoOp op && decide (wd = 0 ∧ nm = []) && (rightE x (if inn op x false = true then d + 1 else d) && rightE y (if inn op y true = true then d + 1 else d)))
  rw [rightE]; simp [hd]
theorem rightE_4n {e : Ex} {d : Nat} (h : e.k = 4) (hx : e.kids.length ≠ 2 ∨ twoOp e.op = false ∨ e.wd ≠ 0 ∨ e.nm ≠ []) : rightE e d = false := by
 cases e with
 | mk k op wd nm kids a =>
  simp only [Ex.k] at h; subst h
  simp only [Ex.kids, Ex.op, Ex.wd, Ex.nm] at hx
  rcases kids with _ | ⟨x, _ | ⟨y, _ | ⟨z, r⟩⟩⟩ <;> rw [rightE] <;> rcases hx with h | h | h | h <;> simp_all
theorem rightE_0 {e : Ex} {d : Nat} (h1 : e.k ≠ 1) (h2 : e.k ≠ 2) (h3 : e.k ≠ 3) (h4 : e.k ≠ 4) : rightE e d = false := by
 cases e; simp only [Ex.k] at *; unfold rightE; simp [h1, h2, h3, h4]
theorem inn_f {op : Int} {x : Ex} (h : x.k = 4) : inn op x false = decide (lvlO x.op < lvlO op) := by unfold inn; simp [h]
theorem inn_n {op : Int} {x : Ex} {b : Bool} (h : ¬x.k = 4) : inn op x b = false := by unfold inn; simp [h]
theorem inn_t {op : Int} {x : Ex} (h : x.k = 4) : inn op x true = decide (lvlO x.op ≤ lvlO op) := by
 unfold inn; rw [Bool.eq_iff_iff]; simp [h]; omega
theorem rightE_big {e : Ex} {d : Nat} (h : 64 < d) : rightE e d = false := by
 cases hr : rightE e d
 ·rfl
 ·have := rightE_le hr; omega
theorem rightE_3d {e : Ex} {d : Nat} (h : e.k = 3) (hd : 64 ≤ d) : rightE e d = false := by
 by_cases h1 : e.kids.length = 1
 ·obtain ⟨x, hx⟩ := get0 h1 (by omega)
  by_cases h2 : d ≤ 64
  ·rw [rightE_3 h h2 (one_form h1 hx), rightE_big (by split <;> omega), Bool.and_false]
  ·exact rightE_big (by omega)
 ·exact rightE_3n h (.inl h1)
theorem szo_kids (e : Ex) : szo e.kids < szo e := by cases e; exact ex_size
end Go.Proofs.YtnmhlpnapgojjaaGreatDoor


/- The engine, sixteenth part: a text that grows in somebody's memory: a struct of a byte slice and a flag. -/
namespace Sx
open Go Go.RowKit

/-- a row of cells that the callee does not own: its block may change -/
def frn (M : List Nat) (base E : Nat) (v : Value) (n : Nat) (xs : List Value) : Res := .tree v.ownBlock.toList fun w => w.ownsRow 0 E 1 v n xs ∧ ∀ k, v.ownBlock = some k → k ∈ M ∨ base ≤ k

theorem loc_owns (E n : Nat) (v : Value) (xs : List Value) : Loc v.ownBlock.toList fun w => w.ownsRow 0 E 1 v n xs := by
  intro w w' hs hk ⟨h1, h2⟩
  refine ⟨h1, h2.imp id fun ⟨g, cap, cur, e, hb, hc, hr⟩ => ⟨g, cap, cur, e, hb, ?_, hr⟩⟩
  rw [hk g (by rw [e]; simp [Value.ownBlock])]; exact hc

section
variable {w0 w w' : World} {M : List Nat} {hs : List Res}

theorem frn_holds {base' base E n : Nat} {v : Value} {xs : List Value} (ho : w.ownsRow 0 E 1 v n xs) (hm : ∀ k, v.ownBlock = some k → k ∈ M ∨ base ≤ k) : (frn M base E v n xs).holds base' w :=
  ⟨⟨ho, hm⟩, fun k hk => (World.ownsRow.lt ho k (by simpa using hk)).2, fun a b hs hk h => ⟨loc_owns E n v xs a b hs hk h.1, h.2⟩⟩

theorem St.appF (st : St w0 M hs w) {i E n n' : Nat} {v v' : Value} {xs xs' : List Value} (hi : nth hs i = some (frn M w0.heap.size E v n xs)) (hg : w.grownBy w' v.ownBlock)
    (hown : w'.ownsRow 0 E 1 v' n' xs') (hat : ∀ k, v'.ownBlock = some k → v.ownBlock = some k ∨ w.heap.size ≤ k) :
    St w0 M (setNth hs i (frn M w0.heap.size E v' n' xs')) w' := by
  obtain ⟨⟨h1, h2⟩, -⟩ := st.res hi
  refine st.swap hi (Chg.of_grownByO hg) (by simp [Res.at?, frn]) (fun k hk => h2 k (by simpa using hk)) (fun k hk => ?_) (frn_holds hown fun k hk => ?_)
  · simp only [Res.at?, frn, Option.mem_toList] at hk ⊢
    exact hat k hk
  · rcases hat k hk with h | h
    · exact h2 k h
    · exact .inr (Nat.le_trans st.chg.size h)

variable {P : Program} {n : Fr} {L : List Oper} {Q : Exit → Act → World → Prop} {kn : Kn} {N : Act → World → Prop}
variable {d ty : Nat} {pos : String} {aft : Array Edge} {g : Option (Nat × Bool)}

theorem slice_form {base E len : Nat} {v : Value} {xs : List Value} (ho : w.ownsRow base E 1 v len xs) : ∃ oa cap, v = .slice oa len cap := by
  rcases ho.2 with ⟨rfl, h0⟩ | ⟨g, cap, cur, rfl, _⟩
  · exact ⟨none, 0, by rw [h0]⟩
  · exact ⟨_, _, rfl⟩

/-- append(v, s...) to a row that is another's -/
theorem e_appsF (st : St w0 M hs w) (i : Nat) {T U E len : Nat} {x y : Operand} {v : Value} {xs : List Value} {p : List UInt8} {ti : TypeInfo} (hw : gd L kn g = some true) (hd : okDst n (some d) = true)
    (hx : evO kn x = some v) (hy : evO kn y = some (str p)) (hi : nth hs i = some (frn M w0.heap.size E v len xs))
    (ht : P.underlying T = some (.slice E)) (hu : P.underlying U = some .string) (hinfo : P.info? E = some ti) (hz : ti.zero = some (.int .u8 0)) (hsize : ti.size = 1) (hby : ti.bytes = 1)
    {len' : Nat} {ys : List Value} (hlen' : len + p.length = len') (hys : xs ++ bytesL p = ys) (h63 : len' ≤ 140737488355328)
    (next : ∀ oa cap w', St w0 M (setNth hs i (frn M w0.heap.size E (.slice oa len' cap) len' ys)) w' → vN n N ((d, .slice oa len' cap) :: kn) w') :
    vS P n L Q ⟨some d, .call ⟨.builtin .append, #[x, y], #[T, U]⟩, ty, pos, aft, g⟩ N kn w := by
  subst hlen' hys
  obtain ⟨v', w', hr, ho, hg, hat⟩ := app_str (P := P) (tyy := ty) 0 ht hu hinfo hz hsize hby (st.res hi).1.1 p (by unfold maxLen; omega) h63 (Nat.zero_le _)
  obtain ⟨oa, cap, rfl⟩ := slice_form ho
  refine e_bi [v, str p] hw hd (by simp [hx, hy]) (w' := w') (fun cs => ?_) (next oa cap w' (st.appF hi hg ho hat))
  simp only [builtin, Sem.run_bind, List.toArray, hr]
  rfl

/-- append(v, x) to a row that is another's: a row of new cells that is held -/
theorem e_appF (st : St w0 M hs w) (i j : Nat) {T E bytes m len c b : Nat} {x y : Operand} {v z : Value} {xs l : List Value} {fz : Nat × Nat} {ti : TypeInfo} (hw : gd L kn g = some true) (hd : okDst n (some d) = true)
    (hx : evO kn x = some v) (hy : evO kn y = some (.slice (some ⟨b, 0, none⟩) m c)) (hi : nth hs i = some (frn M w0.heap.size E v len xs)) (hj : nth hs j = some (.blk b (.cells l.toArray E fz)))
    (ht : P.underlying T = some (.slice E)) (hinfo : P.info? E = some ti) (hz : ti.zero = some z) (hsize : ti.size = 1) (hby : ti.bytes = bytes) (hzs : z.cells.size = 1)
    (hl : l.length = m * 1) (h1 : allOne l = true) (hm : Nat.blt 0 m = true) (h63 : len + m ≤ maxLen) (hbytes : (len + m) * bytes ≤ 140737488355328) {len' : Nat} {ys : List Value} (hlen' : len + m = len') (hys : xs ++ l = ys)
    (next : ∀ oa cap w', St w0 M (setNth hs i (frn M w0.heap.size E (.slice oa len' cap) len' ys)) w' → vN n N ((d, .slice oa len' cap) :: kn) w') :
    vS P n L Q ⟨some d, .call ⟨.builtin .append, #[x, y], #[T, T]⟩, ty, pos, aft, g⟩ N kn w := by
  subst hlen' hys
  have hb : w.heap[b]? = some (.cells l.toArray E fz) := st.res hj
  have hm' : 0 < m := by simpa [Nat.blt_eq] using hm
  obtain ⟨v', w', hr, hown, hg, hnil, hat⟩ := run_append_own_at (P := P) w 0 T ty E ti z 1 bytes ht hinfo hz hsize hby hzs (by omega) v len xs (st.res hi).1.1 ⟨b, 0, none⟩ m c l hl
    (fun k u hk => by rw [addr_add]; exact cell_blk hb (by rw [nth_eq]; simpa using hk)) (allOne_spec h1) h63 hbytes (Nat.zero_le _)
  obtain ⟨oa, cap, rfl⟩ := slice_form hown
  refine e_bi [v, .slice (some ⟨b, 0, none⟩) m c] hw hd (by simp [hx, hy]) (w' := w') (fun cs => ?_) (next oa cap w' (st.appF hi hg hown (fun k hk => by
    rcases hat with h | h
    · rw [h] at hk; exact .inl hk
    · rw [h] at hk; simp at hk; exact .inr (by omega))))
  simp only [builtin, Sem.run_bind, List.toArray, hr]
  rfl

/-! ## the text -/
/-- what lies there tells of the text: all of it, or that it is too long -/
def WS (l : List UInt8) (many : Bool) (F : List UInt8) : Prop := (many = false ∧ l = F ∧ F.length ≤ 65536) ∨ (many = true ∧ 65536 < F.length ∧ l.length ≤ 65536)
theorem WS.le {l F : List UInt8} {m : Bool} (h : WS l m F) : l.length ≤ 65536 := by
  rcases h with ⟨_, rfl, h⟩ | ⟨_, _, h⟩ <;> exact h
theorem WS.over {l F : List UInt8} (h : WS l true F) (G : List UInt8) : WS l true (F ++ G) := by
  rcases h with ⟨h, _⟩ | ⟨_, h1, h2⟩
  · cases h
  · exact .inr ⟨rfl, by simp; omega, h2⟩
theorem WS.put {l F : List UInt8} (h : WS l false F) {G : List UInt8} (hG : l.length + G.length ≤ 65536) : WS (l ++ G) false (F ++ G) := by
  rcases h with ⟨_, rfl, h⟩ | ⟨h, _⟩
  · exact .inl ⟨rfl, rfl, by simpa using hG⟩
  · cases h
theorem WS.no {l F : List UInt8} (h : WS l false F) {G : List UInt8} (hG : 65536 < l.length + G.length) : WS l true (F ++ G) := by
  rcases h with ⟨_, rfl, h⟩ | ⟨h, _⟩
  · exact .inr ⟨rfl, by simpa using hG, h⟩
  · cases h
theorem WS.no' {l F : List UInt8} {m : Bool} (h : WS l m F) (hm : m = false) {G : List UInt8} (hG : 65536 < l.length + G.length) : WS l true (F ++ G) := by subst hm; exact h.no hG
/-- another text that is too long as well -/
theorem WS.swap {l F G G' : List UInt8} {m : Bool} (h : WS l m (F ++ G')) (hG : G' = G ∨ 65536 < G'.length ∧ 65536 < G.length) : WS l m (F ++ G) := by
  rcases hG with rfl | ⟨h1, h2⟩
  · exact h
  · rcases h with ⟨_, rfl, h⟩ | ⟨rfl, _, h⟩
    · simp at h; omega
    · exact .inr ⟨rfl, by simp; omega, h⟩
def Wr (E n0 T bw : Nat) (v : Value) (F : List UInt8) (w : World) : Prop := ∃ l many, w.heap[bw]? = some (.cells #[v, .bool many] T (0, 0)) ∧ w.ownsRow 0 E 1 v l.length (bytesL l) ∧ WS l many F ∧ n0 ≤ bw ∧ ∀ k, v.ownBlock = some k → n0 ≤ k ∧ k ≠ bw
def WrP (E n0 T bw : Nat) (v : Value) (F : List UInt8) (w w' : World) : Prop := ∃ v', Wr E n0 T bw v' F w' ∧ Chg (bw :: v.ownBlock.toList) w w' ∧ ∀ k, v'.ownBlock = some k → v.ownBlock = some k ∨ w.heap.size ≤ k
def wrR (M : List Nat) (base E n0 T bw : Nat) (v : Value) (F : List UInt8) : Res := .tree (bw :: v.ownBlock.toList) fun w => Wr E n0 T bw v F w ∧ (bw ∈ M ∨ base ≤ bw) ∧ ∀ k, v.ownBlock = some k → k ∈ M ∨ base ≤ k
variable {E n0 T bw : Nat} {v : Value} {F : List UInt8}
theorem Wr.lt (h : Wr E n0 T bw v F w) : ∀ k ∈ bw :: v.ownBlock.toList, k < w.heap.size := by
  obtain ⟨l, many, hb, ho, hws, h1, h2⟩ := h
  intro k hk
  rcases List.mem_cons.1 hk with rfl | hk
  · exact (Array.getElem?_eq_some_iff.1 hb).1
  · exact (World.ownsRow.lt ho k (by simpa using hk)).2
theorem Wr.loc : Loc (bw :: v.ownBlock.toList) (Wr E n0 T bw v F) := by
  intro a b hs hk ⟨l, many, hb, ho, hr⟩
  exact ⟨l, many, by rw [hk bw (.head _)]; exact hb, loc_owns E _ v _ a b hs (fun k h => hk k (.tail _ h)) ho, hr⟩
theorem wrR_holds {base' base : Nat} (h : Wr E n0 T bw v F w) (hb : bw ∈ M ∨ base ≤ bw) (hm : ∀ k, v.ownBlock = some k → k ∈ M ∨ base ≤ k) : (wrR M base E n0 T bw v F).holds base' w :=
  ⟨⟨h, hb, hm⟩, h.lt, fun a b hs hk h => ⟨Wr.loc a b hs hk h.1, h.2⟩⟩
theorem St.wrInit (h : Wr E n0 T bw v F w) : St w (bw :: v.ownBlock.toList) [wrR (bw :: v.ownBlock.toList) w.heap.size E n0 T bw v F] w :=
  ⟨Chg.refl _ _, List.pairwise_singleton _ _, by
    intro r hr
    simp only [List.mem_singleton] at hr
    subst hr
    exact wrR_holds h (.inl (.head _)) (fun k hk => .inl (.tail _ (Option.mem_toList.2 hk)))⟩
/-- a callee has written -/
theorem St.wr (st : St w0 M hs w) {i : Nat} {F' : List UInt8} (hi : nth hs i = some (wrR M w0.heap.size E n0 T bw v F)) (p : WrP E n0 T bw v F' w w') : ∃ v', St w0 M (setNth hs i (wrR M w0.heap.size E n0 T bw v' F')) w' := by
  obtain ⟨v', h1, h2, h3⟩ := p
  obtain ⟨⟨k1, k2, k3⟩, -⟩ := st.res hi
  refine ⟨v', st.swap hi h2 (by simp [Res.at?, wrR]) (fun k hk => ?_) (fun k hk => ?_) (wrR_holds h1 k2 fun k hk => ?_)⟩
  · rcases List.mem_cons.1 hk with rfl | hk
    · exact k2
    · exact k3 k (by simpa using hk)
  · simp only [Res.at?, wrR, List.mem_cons, Option.mem_toList] at hk ⊢
    rcases hk with rfl | hk
    · exact .inl (.inl rfl)
    · exact (h3 k hk).imp .inr id
  · rcases h3 k hk with h | h
    · exact k3 k h
    · exact .inr (Nat.le_trans st.chg.size h)
theorem St.wrGet (st : St w0 M hs w) {i : Nat} (hi : nth hs i = some (wrR M w0.heap.size E n0 T bw v F)) : Wr E n0 T bw v F w := (st.res hi).1.1
/-- the callee is done -/
theorem St.wrDone {v0 : Value} (st : St w0 (bw :: v0.ownBlock.toList) hs w) {i : Nat} (hi : nth hs i = some (wrR (bw :: v0.ownBlock.toList) w0.heap.size E n0 T bw v F)) : WrP E n0 T bw v0 F w0 w := by
  obtain ⟨⟨k1, k2, k3⟩, -⟩ := st.res hi
  refine ⟨v, k1, st.chg, fun k hk => ?_⟩
  obtain ⟨l, many, hb, ho, hws, h1, h2⟩ := k1
  rcases k3 k hk with h | h
  · rcases List.mem_cons.1 h with rfl | h
    · exact absurd rfl (h2 _ hk).2
    · exact .inl (by simpa using h)
  · exact .inr h
/-- what lies in other blocks stays -/
theorem Wr.same (h : Wr E n0 T bw v F w) (c : Chg (bw :: v.ownBlock.toList) w w') : w.heap.size ≤ w'.heap.size ∧ ∀ b, b < n0 → b < w.heap.size → w'.heap[b]? = w.heap[b]? := by
  obtain ⟨l, many, hb, ho, hws, h1, h2⟩ := h
  refine ⟨c.size, fun b hb hl => c.block b hl fun hk => ?_⟩
  rcases List.mem_cons.1 hk with rfl | hk
  · omega
  · have := (h2 b (by simpa using hk)).1; omega
theorem Wr.notin (h : Wr E n0 T bw v F w) {b : Nat} (hb : b < n0) : b ∉ bw :: v.ownBlock.toList := by
  obtain ⟨l, many, hc, ho, hws, h1, h2⟩ := h
  intro hk
  rcases List.mem_cons.1 hk with rfl | hk
  · omega
  · have := (h2 b (by simpa using hk)).1; omega
theorem WrP.re {F' : List UInt8} (p : WrP E n0 T bw v F w w') (h : ∀ l m v', w'.heap[bw]? = some (.cells #[v', .bool m] T (0, 0)) → WS l m F → WS l m F') : WrP E n0 T bw v F' w w' := by
  obtain ⟨v', ⟨l, m, hb, ho, hws, hr⟩, h2⟩ := p
  exact ⟨v', ⟨l, m, hb, ho, h l m v' hb hws, hr⟩, h2⟩
theorem WrP.eq {F' : List UInt8} (p : WrP E n0 T bw v F w w') (h : F = F') : WrP E n0 T bw v F' w w' := h ▸ p
/-- the text is too long already -/
theorem WrP.over {G : List UInt8} (p : WrP E n0 T bw v F w w') {v1 : Value} (h : w'.heap[bw]? = some (.cells #[v1, .bool true] T (0, 0))) : WrP E n0 T bw v (F ++ G) w w' :=
  p.re fun l m v' hb hws => by
    rw [h] at hb
    simp only [Option.some.injEq, Obj.cells.injEq, Array.mk.injEq, List.cons.injEq, Value.bool.injEq, and_true] at hb
    rw [← hb.2] at hws ⊢
    exact hws.over G
/-- the struct and its row apart -/
theorem St.wrOpen (h : Wr E n0 T bw v F w) : ∃ l many oa cap, v = .slice oa l.length cap ∧ WS l many F ∧ n0 ≤ bw ∧ (∀ k, v.ownBlock = some k → n0 ≤ k ∧ k ≠ bw) ∧
    St w (bw :: v.ownBlock.toList) [.blk bw (.cells [.slice oa l.length cap, .bool many].toArray T (0, 0)), frn (bw :: v.ownBlock.toList) w.heap.size E (.slice oa l.length cap) l.length (bytesL l)] w := by
  obtain ⟨l, many, hb, ho, hws, h1, h2⟩ := h
  obtain ⟨oa, cap, rfl⟩ := slice_form ho
  refine ⟨l, many, oa, cap, rfl, hws, h1, h2, Chg.refl _ _, ?_, ?_⟩
  · refine List.pairwise_cons.2 ⟨fun s hs k hk hk' => ?_, List.pairwise_singleton _ _⟩
    simp only [List.mem_singleton] at hs
    subst hs
    simp only [Res.at?, List.mem_singleton] at hk
    subst hk
    simp only [Res.at?, frn, Option.mem_toList] at hk'
    exact (h2 _ hk').2 rfl
  · intro r hr
    simp only [List.mem_cons, List.not_mem_nil, or_false] at hr
    rcases hr with rfl | rfl
    · exact hb
    · exact frn_holds ho (fun k hk => .inl (.tail _ (Option.mem_toList.2 hk)))
/-- and together again, at the end -/
theorem St.wrClose {l : List UInt8} {many : Bool} {oa : Option Addr} {len cap : Nat} {v0 : Value} {i j : Nat} (st : St w0 (bw :: v0.ownBlock.toList) hs w) (hi : nth hs i = some (.blk bw (.cells [.slice oa len cap, .bool many].toArray T (0, 0))))
    (hj : nth hs j = some (frn (bw :: v0.ownBlock.toList) w0.heap.size E (.slice oa len cap) len (bytesL l))) (hl : l.length = len) (hws : WS l many F) (hn : n0 ≤ bw) (h0 : ∀ k, v0.ownBlock = some k → n0 ≤ k ∧ k ≠ bw) (hbw : bw < w0.heap.size) (hw : n0 ≤ w0.heap.size) : WrP E n0 T bw v0 F w0 w := by
  subst hl
  have hb : w.heap[bw]? = some (.cells #[.slice oa l.length cap, .bool many] T (0, 0)) := st.res hi
  obtain ⟨⟨ho, hm⟩, -⟩ := st.res hj
  have key : ∀ k, (Value.slice oa l.length cap).ownBlock = some k → (v0.ownBlock = some k ∨ w0.heap.size ≤ k) ∧ n0 ≤ k ∧ k ≠ bw := by
    intro k hk
    have hne : k ≠ bw := by
      intro e
      have hij : i ≠ j := by
        rintro rfl
        rw [hi] at hj
        cases hj
      exact (apart_nth st.nodup hij hi hj) bw (.head _) (Option.mem_toList.2 (e ▸ hk))
    rcases hm k hk with h | h
    · rcases List.mem_cons.1 h with rfl | h
      · exact absurd rfl hne
      · have h' : v0.ownBlock = some k := by simpa using h
        exact ⟨.inl h', (h0 k h').1, hne⟩
    · exact ⟨.inr h, by omega, hne⟩
  exact ⟨.slice oa l.length cap, ⟨l, many, hb, ho, hws, hn, fun k hk => (key k hk).2⟩, st.chg, fun k hk => (key k hk).1⟩
/-- an empty text -/
theorem St.wrNew (st : St w0 M (.blk bw (.cells [.slice none 0 0, .bool false].toArray T (0, 0)) :: hs) w) (hb : w0.heap.size ≤ bw) (hn : n0 ≤ w0.heap.size) : St w0 M (wrR M w0.heap.size E n0 T bw (.slice none 0 0) [] :: hs) w := by
  have h : w.heap[bw]? = some (.cells #[.slice none 0 0, .bool false] T (0, 0)) := st.res (i := 0) rfl
  refine st.turn0 (fun k hk => by simpa [Res.at?, wrR, Value.ownBlock] using hk) (wrR_holds ⟨[], false, h, World.ownsRow_nil w 0 E 1, .inl ⟨rfl, rfl, by simp⟩, by omega, fun k hk => by simp [Value.ownBlock] at hk⟩ (.inr hb) fun k hk => by simp [Value.ownBlock] at hk)
end
end Sx


namespace Go.Proofs.YtnmhlpnapgojjaaGreatDoor
open Go.RowKit Sx LexS _root_.Go.Proofs.Tryz
theorem Tryz.info5 : Tryz.prog.info? 5 = some Tryz.t5 := by kernel_rfl
section
variable {n0 : Nat}
theorem ptr_cell {w : World} {bw T : Nat} {v : Value} {m : Bool} (h : w.heap[bw]? = some (.cells #[v, .bool m] T (0, 0))) : w.cell? ⟨bw, 1, none⟩ = some (.bool m) := cell_nth (l := [v, .bool m]) h rfl

end
end Go.Proofs.YtnmhlpnapgojjaaGreatDoor


namespace Go.Proofs.YtnmhlpnapgojjaaGreatDoor
open Go.RowKit Sx LexS _root_.Go.Proofs.Tryz
section
variable {S : Nat → Prop}

end
end Go.Proofs.YtnmhlpnapgojjaaGreatDoor


namespace Go.Proofs.YtnmhlpnapgojjaaGreatDoor
open Go.RowKit Sx LexS _root_.Go.Proofs.Tryz
section
variable {n0 : Nat}
theorem rightE_inv3 {e : Ex} {d : Nat} (h : rightE e d = true) (hk : e.k = 3) : ∃ x, e.kids = [x] ∧ ∃ d', rightE x d' = true := by
 have hd := rightE_le h
 by_cases h1 : e.kids.length = 1
 ·obtain ⟨x, hx⟩ := get0 h1 (by omega)
  refine ⟨x, one_form h1 hx, ?_⟩
  rw [rightE_3 hk hd (one_form h1 hx)] at h
  simp only [Bool.and_eq_true] at h
  exact ⟨_, h.2⟩
 ·rw [rightE_3n hk (.inl h1)] at h; cases h
theorem rightE_inv4 {e : Ex} {d : Nat} (h : rightE e d = true) (hk : e.k = 4) : ∃ x y, e.kids = [x, y] ∧ (∃ d', rightE x d' = true) ∧ ∃ d', rightE y d' = true := by
 have hd := rightE_le h
 by_cases h1 : e.kids.length = 2
 ·obtain ⟨x, hx⟩ := get0 h1 (by omega)
  obtain ⟨y, hy⟩ := get1 h1
  refine ⟨x, y, two_form h1 hx hy, ?_⟩
  rw [rightE_4 hk hd (two_form h1 hx hy)] at h
  simp only [Bool.and_eq_true] at h
  exact ⟨⟨_, h.2.1⟩, ⟨_, h.2.2⟩⟩
 ·rw [rightE_4n hk (.inl h1)] at h; cases h
theorem rightE_kind {e : Ex} {d : Nat} (h : rightE e d = true) : e.k = 1 ∨ e.k = 2 ∨ e.k = 3 ∨ e.k = 4 := by
 by_cases h1 : e.k = 1
 ·exact .inl h1
 by_cases h2 : e.k = 2
 ·exact .inr (.inl h2)
 by_cases h3 : e.k = 3
 ·exact .inr (.inr (.inl h3))
 by_cases h4 : e.k = 4
 ·exact .inr (.inr (.inr h4))
 rw [rightE_0 h1 h2 h3 h4] at h; cases h
theorem isName_le {l : List UInt8} (h : isName l = true) : l.length ≤ 32 := by
 rcases Nat.lt_or_ge 32 l.length with h1 | h1
 ·rw [isName_long h1] at h; cases h
 ·exact h1
theorem txtE_1 {e : Ex} (h : e.k = 1) : txtE e = shw e.wd := by
 cases e; simp only [Ex.k] at h; subst h; rw [txtE.eq_def]; simp [Ex.wd]
theorem txtE_2 {e : Ex} (h : e.k = 2) : txtE e = e.nm := by
 cases e; simp only [Ex.k] at h; subst h; rw [txtE.eq_def]; simp [Ex.nm]
theorem txtE_3 {e x : Ex} (h : e.k = 3) (hx : e.kids = [x]) : txtE e = shwO e.op ++ par (decide (x.k = 4)) (txtE x) := by
 cases e with
 | mk k op wd nm kids a => change k = 3 at h; change kids = [x] at hx; subst h hx; rw [txtE]; simp [Ex.op]
theorem txtE_4 {e x y : Ex} (h : e.k = 4) (hx : e.kids = [x, y]) : txtE e = par (inn e.op x false) (txtE x) ++ ([32] ++ shwO e.op ++ [32]) ++ par (inn e.op y true) (txtE y) := by
 cases e with
 | mk k op wd nm kids a => change k = 4 at h; change kids = [x, y] at hx; subst h hx; rw [txtE]; simp [Ex.op]
theorem shw_le (x : Int) (h : i64 x) : (shw x).length ≤ 20 := by
 unfold i64 at h
 have h1 := dec_len 18 x.natAbs (by simp only [Nat.reducePow, Nat.reduceAdd]; omega)
 unfold shw
 split
 ·simp only [List.length_cons]; omega
 ·omega
end
end Go.Proofs.YtnmhlpnapgojjaaGreatDoor


/- The engine, seventeenth part: a byte slice in a box that a closure holds. -/
namespace Sx
open Go Go.RowKit
section
variable {w0 w w' : World} {M : List Nat} {hs : List Res} {E n0 T b n n' : Nat} {v v' : Value} {l l' : List UInt8} {xs xs' : List Value}

/-- a row that a callee has written on -/
def RowP (E : Nat) (v v' : Value) (n' : Nat) (xs' : List Value) (w w' : World) : Prop := w'.ownsRow 0 E 1 v' n' xs' ∧ Chg v.ownBlock.toList w w' ∧ ∀ k, v'.ownBlock = some k → v.ownBlock = some k ∨ w.heap.size ≤ k
theorem St.frnP (st : St w0 M hs w) {i : Nat} (hi : nth hs i = some (frn M w0.heap.size E v n xs)) (p : RowP E v v' n' xs' w w') : St w0 M (setNth hs i (frn M w0.heap.size E v' n' xs')) w' := by
  obtain ⟨⟨h1, h2⟩, -⟩ := st.res hi
  obtain ⟨p1, p2, p3⟩ := p
  refine st.swap hi p2 (by simp [Res.at?, frn]) (fun k hk => h2 k (by simpa using hk)) (fun k hk => ?_) (frn_holds p1 fun k hk => ?_)
  · simp only [Res.at?, frn, Option.mem_toList] at hk ⊢
    exact p3 k hk
  · rcases p3 k hk with h | h
    · exact h2 k h
    · exact .inr (Nat.le_trans st.chg.size h)
theorem St.frnInit (h : w.ownsRow 0 E 1 v n xs) : St w v.ownBlock.toList [frn v.ownBlock.toList w.heap.size E v n xs] w :=
  ⟨Chg.refl _ _, List.pairwise_singleton _ _, by
    intro r hr
    simp only [List.mem_singleton] at hr
    subst hr
    exact frn_holds h (fun k hk => .inl (Option.mem_toList.2 hk))⟩
theorem St.frnDone {v0 : Value} (st : St w0 v0.ownBlock.toList hs w) {i : Nat} (hi : nth hs i = some (frn v0.ownBlock.toList w0.heap.size E v n xs)) : RowP E v0 v n xs w0 w := by
  obtain ⟨⟨h1, h2⟩, -⟩ := st.res hi
  exact ⟨h1, st.chg, fun k hk => (h2 k hk).imp (fun h => by simpa using h) id⟩
theorem St.frnGet (st : St w0 M hs w) {i : Nat} (hi : nth hs i = some (frn M w0.heap.size E v n xs)) : w.ownsRow 0 E 1 v n xs := (st.res hi).1.1

theorem St.frnN (st : St w0 M hs w) {i : Nat} (hi : nth hs i = some (frn M w0.heap.size E v n xs)) (hM : ∀ k ∈ M, n0 ≤ k) (hn : n0 ≤ w0.heap.size) : ∀ k, v.ownBlock = some k → n0 ≤ k := fun k hk => by
  rcases (st.res hi).1.2 k hk with h | h
  · exact hM k h
  · omega
theorem St.split2 {q r s : Res} (st : St w0 M (q :: hs) w) (h1 : ∀ k ∈ r.at?, k ∈ q.at?) (h2 : ∀ k ∈ s.at?, k ∈ q.at?) (h3 : ∀ k ∈ r.at?, k ∉ s.at?) (hr : r.holds w0.heap.size w) (hs' : s.holds w0.heap.size w) : St w0 M (r :: s :: hs) w := by
  have hnd := List.pairwise_cons.1 st.nodup
  refine ⟨st.chg, List.pairwise_cons.2 ⟨fun x hx => ?_, List.pairwise_cons.2 ⟨fun x hx k hk => hnd.1 x hx k (h2 k hk), hnd.2⟩⟩, fun x hx => ?_⟩
  · rcases List.mem_cons.1 hx with rfl | hx
    · exact h3
    · exact fun k hk => hnd.1 x hx k (h1 k hk)
  · rcases List.mem_cons.1 hx with rfl | hx
    · exact hr
    · rcases List.mem_cons.1 hx with rfl | hx
      · exact hs'
      · exact st.here x (.tail _ hx)

def Bx (E n0 T b : Nat) (v : Value) (l : List UInt8) (w : World) : Prop := w.heap[b]? = some (.cells #[v] T (0, 0)) ∧ w.ownsRow 0 E 1 v l.length (bytesL l) ∧ n0 ≤ b ∧ ∀ k, v.ownBlock = some k → n0 ≤ k ∧ k ≠ b
def BxP (E n0 T b : Nat) (v v' : Value) (l' : List UInt8) (w w' : World) : Prop := Bx E n0 T b v' l' w' ∧ Chg (b :: v.ownBlock.toList) w w' ∧ ∀ k, v'.ownBlock = some k → v.ownBlock = some k ∨ w.heap.size ≤ k
theorem Bx.lt (h : Bx E n0 T b v l w) : ∀ k ∈ b :: v.ownBlock.toList, k < w.heap.size := by
  obtain ⟨hb, ho, h1, h2⟩ := h
  intro k hk
  rcases List.mem_cons.1 hk with rfl | hk
  · exact (Array.getElem?_eq_some_iff.1 hb).1
  · exact (World.ownsRow.lt ho k (by simpa using hk)).2
theorem Bx.notin (h : Bx E n0 T b v l w) {k : Nat} (hk : k < n0) : k ∉ b :: v.ownBlock.toList := by
  obtain ⟨hb, ho, h1, h2⟩ := h
  intro h
  rcases List.mem_cons.1 h with rfl | h
  · omega
  · have := (h2 k (by simpa using h)).1; omega
/-- the box and its row, of the heads of what is held -/
theorem St.bxGet (st : St w0 M (.blk b (.cells [v].toArray T (0, 0)) :: frn M w0.heap.size E v l.length (bytesL l) :: hs) w) (hb : n0 ≤ b) (hn : ∀ k, v.ownBlock = some k → n0 ≤ k) : Bx E n0 T b v l w := by
  have h1 : w.heap[b]? = some (.cells #[v] T (0, 0)) := st.res (i := 0) rfl
  refine ⟨h1, (st.res (i := 1) rfl).1.1, hb, fun k hk => ⟨hn k hk, fun e => ?_⟩⟩
  subst e
  exact apart_nth (i := 0) (j := 1) st.nodup (by simp) rfl rfl k (.head _) (Option.mem_toList.2 hk)
theorem St.bxCall (st : St w0 M (.blk b (.cells [v].toArray T (0, 0)) :: frn M w0.heap.size E v l.length (bytesL l) :: hs) w) (hm : b ∈ M ∨ w0.heap.size ≤ b) (p : BxP E n0 T b v v' l' w w') :
    St w0 M (.blk b (.cells [v'].toArray T (0, 0)) :: frn M w0.heap.size E v' l'.length (bytesL l') :: hs) w' ∧ ∀ k, v'.ownBlock = some k → n0 ≤ k := by
  obtain ⟨⟨q1, q2, q3, q4⟩, p2, p3⟩ := p
  have h1 : w.heap[b]? = some (.cells #[v] T (0, 0)) := st.res (i := 0) rfl
  obtain ⟨⟨h2, h3⟩, -⟩ := st.res (i := 1) rfl
  have hb : b < w.heap.size := (Array.getElem?_eq_some_iff.1 h1).1
  have st1 := st.join (q := .tree (b :: v.ownBlock.toList) (fun _ => True)) (fun k hk => (List.mem_cons.1 hk).imp (fun h => by simp [Res.at?, h]) id) ⟨trivial, fun k hk => by
    rcases List.mem_cons.1 hk with rfl | hk
    · exact hb
    · exact (World.ownsRow.lt h2 k (by simpa using hk)).2, fun _ _ _ _ _ => trivial⟩
  have hlt : ∀ k ∈ b :: v'.ownBlock.toList, k < w'.heap.size := Bx.lt (n0 := n0) (l := l') ⟨q1, q2, q3, q4⟩
  have st2 := st1.swap (i := 0) (r' := .tree (b :: v'.ownBlock.toList) (fun _ => True)) rfl p2 (fun k hk => hk) (fun k hk => by
    rcases List.mem_cons.1 hk with rfl | hk
    · exact hm
    · exact h3 k (by simpa using hk)) (fun k hk => by
    rcases List.mem_cons.1 hk with rfl | hk
    · exact .inl (.head _)
    · exact (p3 k (by simpa using hk)).imp (fun h => .tail _ (Option.mem_toList.2 h)) id) ⟨trivial, hlt, fun _ _ _ _ _ => trivial⟩
  refine ⟨st2.split2 (fun k hk => by simp only [Res.at?, List.mem_singleton] at hk; subst hk; exact .head _) (fun k hk => .tail _ hk) (fun k hk hk' => ?_) q1 (frn_holds q2 fun k hk => ?_), fun k hk => (q4 k hk).1⟩
  · simp only [Res.at?, List.mem_singleton] at hk
    subst hk
    exact (q4 k (Option.mem_toList.1 hk')).2 rfl
  · rcases p3 k hk with h | h
    · exact h3 k h
    · exact .inr (Nat.le_trans st.chg.size h)
theorem St.bxInit (h : Bx E n0 T b v l w) : St w (b :: v.ownBlock.toList) [.blk b (.cells [v].toArray T (0, 0)), frn (b :: v.ownBlock.toList) w.heap.size E v l.length (bytesL l)] w := by
  obtain ⟨hb, ho, h1, h2⟩ := h
  refine ⟨Chg.refl _ _, List.pairwise_cons.2 ⟨fun s hs k hk hk' => ?_, List.pairwise_singleton _ _⟩, ?_⟩
  · simp only [List.mem_singleton] at hs
    subst hs
    simp only [Res.at?, List.mem_singleton] at hk
    subst hk
    exact (h2 k (Option.mem_toList.1 hk')).2 rfl
  · intro r hr
    simp only [List.mem_cons, List.not_mem_nil, or_false] at hr
    rcases hr with rfl | rfl
    · exact hb
    · exact frn_holds ho (fun k hk => .inl (.tail _ (Option.mem_toList.2 hk)))
theorem St.bxDone {v0 : Value} {i j len : Nat} (st : St w0 (b :: v0.ownBlock.toList) hs w) (hi : nth hs i = some (.blk b (.cells [v].toArray T (0, 0)))) (hj : nth hs j = some (frn (b :: v0.ownBlock.toList) w0.heap.size E v len (bytesL l))) (hl : l.length = len)
    (hn : n0 ≤ b) (h0 : ∀ k, v0.ownBlock = some k → n0 ≤ k ∧ k ≠ b) (hw : n0 ≤ w0.heap.size) : BxP E n0 T b v0 v l w0 w := by
  subst hl
  have hb : w.heap[b]? = some (.cells #[v] T (0, 0)) := st.res hi
  obtain ⟨⟨ho, hm⟩, -⟩ := st.res hj
  have key : ∀ k, v.ownBlock = some k → (v0.ownBlock = some k ∨ w0.heap.size ≤ k) ∧ n0 ≤ k ∧ k ≠ b := by
    intro k hk
    have hne : k ≠ b := by
      intro e
      have hij : i ≠ j := by
        rintro rfl
        rw [hi] at hj
        cases hj
      exact (apart_nth st.nodup hij hi hj) b (.head _) (Option.mem_toList.2 (e ▸ hk))
    rcases hm k hk with h | h
    · rcases List.mem_cons.1 h with rfl | h
      · exact absurd rfl hne
      · have h' : v0.ownBlock = some k := by simpa using h
        exact ⟨.inl h', (h0 k h').1, hne⟩
    · exact ⟨.inr h, by omega, hne⟩
  exact ⟨⟨hb, ho, hn, fun k hk => (key k hk).2⟩, st.chg, fun k hk => (key k hk).1⟩
end
end Sx

