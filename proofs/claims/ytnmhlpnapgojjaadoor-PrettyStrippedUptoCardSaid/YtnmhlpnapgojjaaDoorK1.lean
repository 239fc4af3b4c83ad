/- A part of the proof: contracts of functions and plain laws; each theorem says its own conditions. -/
import Derived.Great.BuildSlice
import Derived.Lib.AppendStr
import Derived.Laws.BytesArg
import Derived.Laws.MakeOwn
import Derived.Laws.OwnMore
import Derived.WalkKit
import Derived.ProofKit
import Derived.OpenShut
import Derived.ChangeOld
import Derived.OpenVars
import Derived.Below
import Derived.Test.YtnmhlpnapgojjaaDoorK0
namespace Go.Proofs.YtnmhlpnapgojjaaDoor
open Go.RowKit Sx LexS _root_.Go.Proofs.Tryd
set_option linter.unusedVariables false
set_option linter.unusedSimpArgs false
theorem isName_eq {l : List UInt8} (h0 : l ≠ []) (h1 : l.length ≤ 32) (h2 : isDigit (l.getD 0 0) = false) (h3 : isWord l = false) : isName l = l.all isIdent := by
 match l, h0 with
 | c :: r, _ => simp at h2 h1; simp [isName, h2, h3, h1]
theorem isName_nil {l : List UInt8} (h : l = []) : isName l = false := by subst h; rfl
theorem isName_long {l : List UInt8} (h : 32 < l.length) : isName l = false := by
 match l, h with
 | c :: r, h => simp only [isName]; rw [show decide ((c :: r).length ≤ 32) = false from by simp only [decide_eq_false_iff_not]; omega]; simp
theorem isName_digit {l : List UInt8} (h : isDigit (l.getD 0 0) = true) : isName l = false := by
 match l with
 | [] => rfl
 | c :: r => simp at h; simp [isName, h]
theorem isName_word {l : List UInt8} (h : isWord l = true) : isName l = false := by
 match l with
 | [] => rfl
 | c :: r => simp [isName, h]
theorem all_take_succ {p : UInt8 → Bool} {l : List UInt8} {m : Nat} (hm : m < l.length) (h : (l.take m).all p = true) (hp : p (l.getD m 0) = true) : (l.take (m + 1)).all p = true := by
 rw [List.take_add_one]
 have : l[m]? = some (l.getD m 0) := by simp [List.getD, hm]
 rw [this]
 simp only [List.all_append, h, Option.toList_some, List.all_cons, hp, List.all_nil, Bool.and_self]
theorem all_no {p : UInt8 → Bool} {l : List UInt8} {m : Nat} (hm : m < l.length) (hp : p (l.getD m 0) = false) : l.all p = false := by
 rw [List.all_eq_false]
 refine ⟨l.getD m 0, ?_, by rw [hp]; simp⟩
 rw [show l.getD m 0 = l[m] from by simp [List.getD, hm]]
 exact List.getElem_mem hm
set_option maxHeartbeats 1000000 in
theorem name_any (l : List UInt8) (w : World) : Ret Tryd.prog 36 [str l] w fun v w' => v = .bool (isName l) ∧ w' = w := by
 refine ret_of [_] func36 rfl ntmps36 rfl ?_
 have st := St.init w []
 refine vc_seq (vc_region ?_)
 refine vc_y rfl rfl (y_as rfl) ?_
 refine vc_end (vq_then (vc_keep [(0, _)] ⟨rfl, trivial⟩ (vc_seq (vc_seq (vc_region ?_)))))
 refine vc_y rfl rfl (y_mv rfl) ?_
 refine vc_y rfl rfl (y_eqs rfl rfl) ?_
 refine vc_e (e_mvb rfl rfl rfl ?_ ?_)
 ·
  intro hg6
  try simp only [dn] at hg6
  iterate 3 refine vc_e (e_skip rfl rfl ?_)
  refine vc_y rfl rfl (y_pickt rfl rfl) ?_
  refine vc_y rfl rfl (y_mv rfl) ?_
  iterate 3 refine vc_e (e_skip rfl rfl ?_)
  refine vc_y rfl rfl (y_pickt rfl rfl) ?_
  refine vc_y rfl rfl (y_mv rfl) ?_
  iterate 2 refine vc_e (e_skip rfl rfl ?_)
  refine vc_y rfl rfl (y_pickt rfl rfl) ?_
  refine vc_end (vq_then (vc_keep [(0, _), (19, _)] ⟨rfl, rfl, trivial⟩ ?_))
  refine vc_ift rfl ?_
  refine vc_seq (vc_region ?_)
  refine vc_y rfl rfl (y_as rfl) ?_
  refine vc_end (vq_then (vc_keep [(2, _)] ⟨rfl, trivial⟩ (vc_ret (vq_then_ret ?_))))
  refine vq_ret1 st (.inl rfl) results36 (.tmp rfl) ?_
  refine ⟨_, rfl, ?_⟩
  refine ⟨?_, rfl⟩
  rw [Value.bool.injEq]
  first
  | (symm; apply isName_nil; first | assumption | (apply List.eq_nil_of_length_eq_zero; omega))
  | (symm; apply isName_long; omega)
  | (symm; apply isName_digit; assumption)
  | (symm; apply isName_word; assumption)
  | (symm; rw [isName_eq (by first | assumption | (intro h; subst h; simp at *)) (by omega) (by assumption) (by assumption)]; exact all_no (m := m) (by omega) (by simp only [isIdent, *, Bool.or_true, Bool.true_or, Bool.or_self]))
  | (symm; rw [isName_eq (by first | assumption | (intro h; subst h; simp at *)) (by omega) (by assumption) (by assumption)]; rw [List.take_of_length_le (by omega)] at hall; exact hall)
 ·
  intro hg6
  try simp only [dn] at hg6
  refine vc_y rfl rfl (y_mv rfl) ?_
  refine vc_y rfl rfl (y_lens rfl underlying9) ?_
  refine vc_y rfl rfl (y_gtr rfl rfl) ?_
  refine vc_y rfl rfl (y_pickf rfl rfl) ?_
  refine vc_e (e_mvb rfl rfl rfl ?_ ?_)
  ·
   intro hg11
   try simp only [dn] at hg11
   iterate 3 refine vc_e (e_skip rfl rfl ?_)
   refine vc_y rfl rfl (y_pickt rfl rfl) ?_
   refine vc_y rfl rfl (y_mv rfl) ?_
   iterate 2 refine vc_e (e_skip rfl rfl ?_)
   refine vc_y rfl rfl (y_pickt rfl rfl) ?_
   refine vc_end (vq_then (vc_keep [(0, _), (19, _)] ⟨rfl, rfl, trivial⟩ ?_))
   refine vc_ift rfl ?_
   refine vc_seq (vc_region ?_)
   refine vc_y rfl rfl (y_as rfl) ?_
   refine vc_end (vq_then (vc_keep [(2, _)] ⟨rfl, trivial⟩ (vc_ret (vq_then_ret ?_))))
   refine vq_ret1 st (.inl rfl) results36 (.tmp rfl) ?_
   refine ⟨_, rfl, ?_⟩
   refine ⟨?_, rfl⟩
   rw [Value.bool.injEq]
   first
   | (symm; apply isName_nil; first | assumption | (apply List.eq_nil_of_length_eq_zero; omega))
   | (symm; apply isName_long; omega)
   | (symm; apply isName_digit; assumption)
   | (symm; apply isName_word; assumption)
   | (symm; rw [isName_eq (by first | assumption | (intro h; subst h; simp at *)) (by omega) (by assumption) (by assumption)]; exact all_no (m := m) (by omega) (by simp only [isIdent, *, Bool.or_true, Bool.true_or, Bool.or_self]))
   | (symm; rw [isName_eq (by first | assumption | (intro h; subst h; simp at *)) (by omega) (by assumption) (by assumption)]; rw [List.take_of_length_le (by omega)] at hall; exact hall)
  ·
   intro hg11
   try simp only [dn] at hg11
   refine vc_y rfl rfl (y_mv rfl) ?_
   refine vc_y rfl rfl (y_ixs (k := 0) rfl rfl underlying9 rfl (by (rcases l with _ | ⟨_, _⟩ <;> simp at * ))) ?_
   refine vc_e (e_call [_] rfl rfl call70 rfl (digit_any _ _) ?_)
   rintro _ w ⟨rfl, rfl⟩
   refine vc_y rfl rfl (y_pickf rfl rfl) ?_
   refine vc_e (e_mvb rfl rfl rfl ?_ ?_)
   ·
    intro hg16
    try simp only [dn] at hg16
    iterate 2 refine vc_e (e_skip rfl rfl ?_)
    refine vc_y rfl rfl (y_pickt rfl rfl) ?_
    refine vc_end (vq_then (vc_keep [(0, _), (19, _)] ⟨rfl, rfl, trivial⟩ ?_))
    refine vc_ift rfl ?_
    refine vc_seq (vc_region ?_)
    refine vc_y rfl rfl (y_as rfl) ?_
    refine vc_end (vq_then (vc_keep [(2, _)] ⟨rfl, trivial⟩ (vc_ret (vq_then_ret ?_))))
    refine vq_ret1 st (.inl rfl) results36 (.tmp rfl) ?_
    refine ⟨_, rfl, ?_⟩
    refine ⟨?_, rfl⟩
    rw [Value.bool.injEq]
    first
    | (symm; apply isName_nil; first | assumption | (apply List.eq_nil_of_length_eq_zero; omega))
    | (symm; apply isName_long; omega)
    | (symm; apply isName_digit; assumption)
    | (symm; apply isName_word; assumption)
    | (symm; rw [isName_eq (by first | assumption | (intro h; subst h; simp at *)) (by omega) (by assumption) (by assumption)]; exact all_no (m := m) (by omega) (by simp only [isIdent, *, Bool.or_true, Bool.true_or, Bool.or_self]))
    | (symm; rw [isName_eq (by first | assumption | (intro h; subst h; simp at *)) (by omega) (by assumption) (by assumption)]; rw [List.take_of_length_le (by omega)] at hall; exact hall)
   ·
    intro hg16
    try simp only [dn] at hg16
    refine vc_y rfl rfl (y_mv rfl) ?_
    refine vc_e (e_call [_] rfl rfl call71 rfl (word_any _ _) ?_)
    rintro _ w ⟨rfl, rfl⟩
    refine vc_y rfl rfl (y_pickf rfl rfl) ?_
    refine vc_end (vq_then (vc_keep [(0, _), (19, _)] ⟨rfl, rfl, trivial⟩ ?_))
    refine vc_ifs rfl ?_ ?_
    ·
     intro hc19
     try simp only [dn] at hc19
     refine vc_seq (vc_region ?_)
     refine vc_y rfl rfl (y_as rfl) ?_
     refine vc_end (vq_then (vc_keep [(2, _)] ⟨rfl, trivial⟩ (vc_ret (vq_then_ret ?_))))
     refine vq_ret1 st (.inl rfl) results36 (.tmp rfl) ?_
     refine ⟨_, rfl, ?_⟩
     refine ⟨?_, rfl⟩
     rw [Value.bool.injEq]
     first
     | (symm; apply isName_nil; first | assumption | (apply List.eq_nil_of_length_eq_zero; omega))
     | (symm; apply isName_long; omega)
     | (symm; apply isName_digit; assumption)
     | (symm; apply isName_word; assumption)
     | (symm; rw [isName_eq (by first | assumption | (intro h; subst h; simp at *)) (by omega) (by assumption) (by assumption)]; exact all_no (m := m) (by omega) (by simp only [isIdent, *, Bool.or_true, Bool.true_or, Bool.or_self]))
     | (symm; rw [isName_eq (by first | assumption | (intro h; subst h; simp at *)) (by omega) (by assumption) (by assumption)]; rw [List.take_of_length_le (by omega)] at hall; exact hall)
    ·
     intro hc19
     try simp only [dn] at hc19
     refine vc_code_skip (vq_then (vc_keep [(0, _)] ⟨rfl, trivial⟩ (vc_seq (vc_seq (vc_region ?_)))))
     refine vc_y rfl rfl (y_mv rfl) ?_
     refine vc_y rfl rfl (y_lens rfl underlying9) ?_
     refine vc_y rfl rfl (y_mv rfl) ?_
     refine vc_end (vq_then (vc_keep [(0, _), (21, _), (22, _)] ⟨rfl, rfl, rfl, trivial⟩ (vc_block ?_)))
     refine vc_loop (w0 := _) (M := _) (fun (m : Nat) => [(0, str l), (21, .int .i64 (l.length : Int)), (22, .int .i64 (m : Int))]) (fun _ => []) (fun m w' => m ≤ l.length ∧ (l.take m).all isIdent = true ∧ w' = w) (fun m => l.length - m) 0 ⟨rfl, rfl, rfl, trivial⟩ st ⟨by omega, by simp, rfl⟩ ?_
     rintro m w' ⟨hm, hall, rfl⟩ st
     refine vc_seq (vc_region ?_)
     refine vc_y rfl rfl (y_lss rfl rfl) ?_
     refine vc_end (vq_then (vc_keep [(0, _), (21, _), (22, _), (23, _)] ⟨rfl, rfl, rfl, rfl, trivial⟩ (vc_seq ?_)))
     refine vc_ifs rfl ?_ ?_
     ·
      intro hc23
      try simp only [dn] at hc23
      refine vc_code_skip (vq_then (vc_keep [(0, _), (21, _), (22, _)] ⟨rfl, rfl, rfl, trivial⟩ (vc_seq (vc_block (vc_seq (vc_region ?_))))))
      refine vc_y rfl rfl (y_mv rfl) ?_
      refine vc_y rfl rfl (y_as rfl) ?_
      refine vc_end (vq_then (vc_keep [(0, _), (3, _), (21, _), (22, _)] ⟨rfl, rfl, rfl, rfl, trivial⟩ (vc_seq (vc_region ?_))))
      iterate 2 refine vc_y rfl rfl (y_mv rfl) ?_
      refine vc_y rfl rfl (y_ixs (k := _) rfl rfl underlying9 rfl (by omega)) ?_
      refine vc_e (e_call [_] rfl rfl call72 rfl (letter_any _ _) ?_)
      rintro _ w ⟨rfl, rfl⟩
      refine vc_y rfl rfl (y_not rfl) ?_
      refine vc_e (e_mvb rfl rfl rfl ?_ ?_)
      ·
       intro hg30
       try simp only [dn] at hg30
       iterate 2 refine vc_y rfl rfl (y_mv rfl) ?_
       refine vc_y rfl rfl (y_ixs (k := _) rfl rfl underlying9 rfl (by omega)) ?_
       refine vc_e (e_call [_] rfl rfl call70 rfl (digit_any _ _) ?_)
       rintro _ w ⟨rfl, rfl⟩
       refine vc_y rfl rfl (y_not rfl) ?_
       refine vc_y rfl rfl (y_pickt rfl rfl) ?_
       refine vc_end (vq_then (vc_keep [(0, _), (21, _), (22, _), (36, _)] ⟨rfl, rfl, rfl, rfl, trivial⟩ ?_))
       refine vc_ifs rfl ?_ ?_
       ·
        intro hc36
        try simp only [dn] at hc36
        refine vc_seq (vc_region ?_)
        refine vc_y rfl rfl (y_as rfl) ?_
        refine vc_end (vq_then (vc_keep [(2, _)] ⟨rfl, trivial⟩ (vc_ret (vq_block_ret (vq_then_ret (vq_then_ret (vq_block_ret (vq_then_ret ?_))))))))
        refine vq_ret1 st (.inl rfl) results36 (.tmp rfl) ?_
        refine ⟨_, rfl, ?_⟩
        refine ⟨?_, rfl⟩
        rw [Value.bool.injEq]
        first
        | (symm; apply isName_nil; first | assumption | (apply List.eq_nil_of_length_eq_zero; omega))
        | (symm; apply isName_long; omega)
        | (symm; apply isName_digit; assumption)
        | (symm; apply isName_word; assumption)
        | (symm; rw [isName_eq (by first | assumption | (intro h; subst h; simp at *)) (by omega) (by assumption) (by assumption)]; exact all_no (m := m) (by omega) (by simp only [isIdent, *, Bool.or_true, Bool.true_or, Bool.or_self]))
        | (symm; rw [isName_eq (by first | assumption | (intro h; subst h; simp at *)) (by omega) (by assumption) (by assumption)]; rw [List.take_of_length_le (by omega)] at hall; exact hall)
       ·
        intro hc36
        try simp only [dn] at hc36
        refine vc_code_skip (vq_block (vq_then (vc_keep [(0, _), (21, _), (22, _)] ⟨rfl, rfl, rfl, trivial⟩ (vc_region ?_))))
        refine vc_y rfl rfl (y_add rfl rfl rfl (by omega) (by omega)) ?_
        refine vc_y rfl rfl (y_mv rfl) ?_
        refine vc_end ?_
        refine vq_again (m + 1) ⟨rfl, rfl, rfl, trivial⟩ st ?_ ?_
        ·
         exact ⟨by omega, all_take_succ (by omega) hall (by simp only [isIdent, *, Bool.or_true, Bool.true_or, Bool.or_self]), rfl⟩
        ·
         omega
      ·
       intro hg30
       try simp only [dn] at hg30
       iterate 5 refine vc_e (e_skip rfl rfl ?_)
       refine vc_y rfl rfl (y_pickf rfl rfl) ?_
       refine vc_end (vq_then (vc_keep [(0, _), (21, _), (22, _), (36, _)] ⟨rfl, rfl, rfl, rfl, trivial⟩ ?_))
       refine vc_iff rfl ?_
       refine vc_code_skip (vq_block (vq_then (vc_keep [(0, _), (21, _), (22, _)] ⟨rfl, rfl, rfl, trivial⟩ (vc_region ?_))))
       refine vc_y rfl rfl (y_add rfl rfl rfl (by omega) (by omega)) ?_
       refine vc_y rfl rfl (y_mv rfl) ?_
       refine vc_end ?_
       refine vq_again (m + 1) ⟨rfl, rfl, rfl, trivial⟩ st ?_ ?_
       ·
        exact ⟨by omega, all_take_succ (by omega) hall (by simp only [isIdent, *, Bool.or_true, Bool.true_or, Bool.or_self]), rfl⟩
       ·
        omega
     ·
      intro hc23
      try simp only [dn] at hc23
      refine vc_exit (vq_then_exit (vq_then_exit (vq_block_exit (vq_then (vc_keep [] trivial (vc_seq (vc_region ?_)))))))
      refine vc_y rfl rfl (y_as rfl) ?_
      refine vc_end (vq_then (vc_keep [(2, _)] ⟨rfl, trivial⟩ (vc_ret ?_)))
      refine vq_ret1 st (.inl rfl) results36 (.tmp rfl) ?_
      refine ⟨_, rfl, ?_⟩
      refine ⟨?_, rfl⟩
      rw [Value.bool.injEq]
      first
      | (symm; apply isName_nil; first | assumption | (apply List.eq_nil_of_length_eq_zero; omega))
      | (symm; apply isName_long; omega)
      | (symm; apply isName_digit; assumption)
      | (symm; apply isName_word; assumption)
      | (symm; rw [isName_eq (by first | assumption | (intro h; subst h; simp at *)) (by omega) (by assumption) (by assumption)]; exact all_no (m := m) (by omega) (by simp only [isIdent, *, Bool.or_true, Bool.true_or, Bool.or_self]))
      | (symm; rw [isName_eq (by first | assumption | (intro h; subst h; simp at *)) (by omega) (by assumption) (by assumption)]; rw [List.take_of_length_le (by omega)] at hall; exact hall)

end Go.Proofs.YtnmhlpnapgojjaaDoor


/- Blanks and remarks between tokens: no program in sight. -/
namespace LexS
set_option linter.unusedVariables false
set_option linter.unusedSimpArgs false

/-- a token elsewhere -/
def moved (d : Nat) (t : Tok) : Tok := ⟨t.kind, t.text, t.word, d⟩
end LexS


/- Tokens, their places left out: no program in sight. -/
namespace LexS
set_option linter.unusedVariables false
set_option linter.unusedSimpArgs false
/-- one token behind another, places left out -/
def SameN (A B : List Tok) : Prop := A.map (fun t => (t.kind, t.text, t.word)) = B.map (fun t => (t.kind, t.text, t.word))
theorem SameN.cons {A B : List Tok} (h : SameN A B) (t : Tok) (d : Nat) : SameN (t :: A) (moved d t :: B) := by
  unfold SameN at *; simp only [List.map_cons, h]; rfl
end LexS


/- Plain laws on tokens that are told: which are right, and that printed they are cut again. -/
namespace LexS
end LexS


/- Plain laws on numbers as texts: they are cut as one number. -/
namespace LexS
def decF : Nat → Nat → List UInt8
  | 0, n => [UInt8.ofNat (48 + n % 10)]
  | k + 1, n => if n < 10 then [UInt8.ofNat (48 + n)] else decF k (n / 10) ++ [UInt8.ofNat (48 + n % 10)]
/-- a number's digits -/
def dec (n : Nat) : List UInt8 := decF n n
theorem decF_fuel : ∀ (k j n : Nat), n ≤ k → n ≤ j → decF k n = decF j n
  | 0, 0, n, _, _ => rfl
  | 0, j + 1, n, h, _ => by
    obtain rfl : n = 0 := by omega
    simp [decF]
  | k + 1, 0, n, _, h => by
    obtain rfl : n = 0 := by omega
    simp [decF]
  | k + 1, j + 1, n, h1, h2 => by
    simp only [decF]
    split
    · rfl
    · rw [decF_fuel k j (n / 10) (by omega) (by omega)]
theorem dec_small {n : Nat} (h : n < 10) : dec n = [UInt8.ofNat (48 + n)] := by
  unfold dec
  cases n with
  | zero => rfl
  | succ n => simp only [decF]; rw [if_pos h]
theorem dec_big {n : Nat} (h : 10 ≤ n) : dec n = dec (n / 10) ++ [UInt8.ofNat (48 + n % 10)] := by
  unfold dec
  obtain ⟨m, rfl⟩ : ∃ m, n = m + 1 := ⟨n - 1, by omega⟩
  simp only [decF]
  rw [if_neg (by omega), decF_fuel m ((m + 1) / 10) _ (by omega) (by omega)]
theorem digit_of {d : Nat} (h : d < 10) : isDigit (UInt8.ofNat (48 + d)) = true ∧ (UInt8.ofNat (48 + d)).toNat = 48 + d := by
  have e : (UInt8.ofNat (48 + d)).toNat = 48 + d := by
    rw [UInt8.toNat_ofNat']; omega
  refine ⟨?_, e⟩
  simp only [isDigit, decide_eq_true_eq, e]; omega
theorem dec_ind (P : Nat → Prop) (h1 : ∀ n, n < 10 → P n) (h2 : ∀ n, 10 ≤ n → P (n / 10) → P n) (n : Nat) : P n := by
  induction n using Nat.strongRecOn with
  | _ n ih =>
    rcases Nat.lt_or_ge n 10 with h | h
    · exact h1 n h
    · exact h2 n h (ih (n / 10) (by omega))
theorem dec_pos (n : Nat) : 1 ≤ (dec n).length := by
  refine dec_ind (fun n => 1 ≤ (dec n).length) (fun n h => ?_) (fun n h ih => ?_) n
  · rw [dec_small h]; simp
  · rw [dec_big h]; simp
theorem dec_len (k : Nat) : ∀ n, n < 10 ^ (k + 1) → (dec n).length ≤ k + 1 := by
  induction k with
  | zero => intro n h; rw [dec_small (by simpa using h)]; simp
  | succ k ih =>
    intro n h
    rcases Nat.lt_or_ge n 10 with h1 | h1
    · rw [dec_small h1]; simp
    · rw [dec_big h1]
      have := ih (n / 10) (by rw [Nat.div_lt_iff_lt_mul (by omega)]; rw [Nat.pow_succ] at h; exact h)
      simp; omega
/-- a word's text -/
def shw (w : Int) : List UInt8 := if w < 0 then 45 :: dec w.natAbs else dec w.natAbs
end LexS


/- The operators, their signs and levels: no program in sight. -/
namespace LexS
set_option linter.unusedVariables false
set_option linter.unusedSimpArgs false
/-- the operators' signs and levels -/
def sgnT : List (List UInt8 × Int) := [([], 0), ([43], 7), ([45], 7), ([42], 8), ([47], 8), ([37], 8), ([38], 3), ([124], 1), ([94], 2), ([60, 60], 6), ([62, 62], 6), ([61, 61], 4), ([33, 61], 4), ([60], 5), ([60, 61], 5), ([62], 5), ([62, 61], 5), ([45], 9), ([33], 9)]
def sgn (k : Nat) : List UInt8 := (sgnT.getD k ([], 0)).1
def lvl (k : Nat) : Int := (sgnT.getD k ([], 0)).2
def knownOp (k : Int) : Bool := decide (0 < k ∧ k < 19)
def twoOp (k : Int) : Bool := decide (0 < k ∧ k < 17)
def shwO (k : Int) : List UInt8 := if knownOp k = true then sgn k.toNat else []
def lvlO (k : Int) : Int := if knownOp k = true then lvl k.toNat else 0
theorem shwO_len' : ∀ m, m < 19 → (sgn m).length ≤ 2 := by decide
theorem shwO_len (k : Int) : (shwO k).length ≤ 2 := by
  unfold shwO
  split
  · rename_i h
    simp [knownOp] at h
    exact shwO_len' _ (by omega)
  · simp
def oneOp (k : Int) : Bool := decide (k = 17 ∨ k = 18)
end LexS


/- The engine, seventh part: append of a row that can be read; stores into a row that is owned; slice literals. -/
namespace Sx
open Go Go.RowKit
set_option linter.unusedVariables false
set_option linter.unusedSimpArgs false
section
variable {w0 w w' : World} {M : List Nat} {hs : List Res}
variable {P : Program} {n : Fr} {L : List Oper} {Q : Exit → Act → World → Prop} {kn : Kn} {N : Act → World → Prop}
variable {d ty : Nat} {pos : String} {aft : Array Edge} {g : Option (Nat × Bool)}

/-- a row that can be read -/
def RdRow (w : World) (oa : Option Addr) (c : Nat) (l : List Value) : Prop := (oa = none ∧ l = [] ∧ c = 0) ∨ ∃ a, oa = some a ∧ ∀ k u, l[k]? = some u → w.cell? (a.add k) = some u

theorem RdRow.kept {oa : Option Addr} {c : Nat} {l : List Value} (h : RdRow w oa c l) (k : Chg [] w w') : RdRow w' oa c l :=
  h.imp id fun ⟨a, e, hc⟩ => ⟨a, e, fun i u hi => k.cell (hc i u hi) (by simp)⟩

/-- a slice literal, by its run -/
theorem e_bsn (st : St w0 M hs w) {T E len : Nat} {parts : Array (Nat × Operand)} {l : List Value} (vals : List (Nat × Value)) (hw : gd L kn g = some true) (hd : okDst n (some d) = true)
    (hv : parts.toList.map (fun p => (evO kn p.2).map (p.1, ·)) = vals.map some)
    (hrun : ∀ w, (Instr.buildSlice T len vals.toArray).run P w = .ok (.slice (some ⟨w.heap.size, 0, none⟩) len len) (w.alloc (.cells l.toArray E (0, 0))))
    (next : ∀ b w', w0.heap.size ≤ b → St w0 M (.blk b (.cells l.toArray E (0, 0)) :: hs) w' → vN n N ((d, .slice (some ⟨b, 0, none⟩) len len) :: kn) w') :
    vS P n L Q ⟨some d, .buildSlice T len parts, ty, pos, aft, g⟩ N kn w := by
  refine e_new st (v := .slice (some ⟨w.heap.size, 0, none⟩) len len) (l := l) (E := E) hw hd (fun a ha => ?_) (fun b w' e hb st' => by subst e; exact next _ w' hb st')
  have hargs : (parts.map fun (i, x) => (i, a.eval x)) = vals.toArray := by
    apply Array.toList_inj.1
    rw [Array.toList_map]
    generalize parts.toList = az at hv
    simp only
    clear hrun
    induction az generalizing vals with
    | nil => cases vals with | nil => rfl | cons v vs => simp at hv
    | cons x xs ih =>
      cases vals with
      | nil => simp at hv
      | cons v vs =>
        simp only [List.map_cons, List.cons.injEq] at hv
        obtain ⟨h1, h2⟩ := hv
        cases hx : evO kn x.2 with
        | none => simp [hx] at h1
        | some u =>
          simp only [hx, Option.map_some, Option.some.injEq] at h1
          subst h1
          simp only [List.map_cons, ha.ev hx, ih vs h2]
  simp only [execOp, hargs, Sem.run_bind, hrun, Result.andThen_ok, Sem.run_pure]

end
end Sx


/- The engine, twelfth part: slices of slices; what a row that is owned reads as. -/
namespace Sx
open Go Go.RowKit
set_option linter.unusedVariables false
set_option linter.unusedSimpArgs false
section
variable {w0 w w' : World} {M : List Nat} {hs : List Res}
variable {P : Program} {n : Fr} {L : List Oper} {Q : Exit → Act → World → Prop} {kn : Kn} {N : Act → World → Prop}
variable {d ty : Nat} {pos : String} {aft : Array Edge} {g : Option (Nat × Bool)}

theorem addr_add0 (a : Addr) : a.add 0 = a := by unfold Addr.add; simp

end
end Sx


/- The engine, thirteenth part: bytes: append of a string's, a string of bytes; max; make. -/
namespace Sx
open Go Go.RowKit Go.Lib
set_option linter.unusedVariables false
set_option linter.unusedSimpArgs false

abbrev bytesL (l : List UInt8) : List Value := l.map fun b => Value.int .u8 (b.toNat : Int)
theorem strCells_eq (l : List UInt8) : strCells ⟨l.toArray⟩ = bytesL l := by simp [strCells]

section
variable {w0 w w' : World} {M : List Nat} {hs : List Res}
variable {P : Program} {n : Fr} {L : List Oper} {Q : Exit → Act → World → Prop} {kn : Kn} {N : Act → World → Prop}
variable {d ty : Nat} {pos : String} {aft : Array Edge} {g : Option (Nat × Bool)}

/-- a row that can be read, at a plain address -/
def RdRowP (w : World) (oa : Option Addr) (c : Nat) (l : List Value) : Prop := (oa = none ∧ l = [] ∧ c = 0) ∨ ∃ b off, oa = some ⟨b, off, none⟩ ∧ ∀ k u, l[k]? = some u → w.cell? ⟨b, off + k, none⟩ = some u
theorem own_rdp {base e size m c : Nat} {oa : Option Addr} {xs : List Value} (h : w.ownsRow base e size (.slice oa m c) m xs) : RdRowP w oa c xs := by
  rcases Nat.eq_zero_or_pos m with hm | hm
  · subst hm
    have h0 : xs = [] := by apply List.eq_nil_of_length_eq_zero; rw [h.1]; simp
    subst h0
    rcases h.2 with ⟨e, _⟩ | ⟨g, cap, cur, e, _⟩
    · simp only [Value.slice.injEq] at e; exact .inl ⟨e.1, rfl, e.2.2⟩
    · simp only [Value.slice.injEq] at e; exact .inr ⟨g, 0, e.1, fun k u hk => by simp at hk⟩
  · obtain ⟨g, cap, e, _⟩ := own_form h hm
    simp only [Value.slice.injEq] at e
    obtain ⟨rfl, -, rfl⟩ := e
    exact .inr ⟨g, 0, rfl, fun k u hk => by rw [Nat.zero_add]; exact own_cell h hk⟩
theorem app_str (base : Nat) {T U tyy E : Nat} {ti : TypeInfo} (ht : P.underlying T = some (.slice E)) (hu : P.underlying U = some .string) (hi : P.info? E = some ti) (hz : ti.zero = some (.int .u8 0)) (hsize : ti.size = 1) (hby : ti.bytes = 1)
    {v : Value} {m : Nat} {xs : List Value} (hown : w.ownsRow base E 1 v m xs) (p : List UInt8) (h63 : m + p.length ≤ maxLen) (hbytes : m + p.length ≤ 140737488355328) (hbase : base ≤ w.heap.size) :
    ∃ v' w', (Builtin.append_ #[T, U] tyy #[v, str p]).run P w = .ok v' w' ∧ w'.ownsRow base E 1 v' (m + p.length) (xs ++ bytesL p) ∧ w.grownBy w' v.ownBlock ∧ (∀ k, v'.ownBlock = some k → v.ownBlock = some k ∨ w.heap.size ≤ k) := by
  have hs : (⟨p.toArray⟩ : ByteArray).size = p.length := rfl
  obtain ⟨v', w', hr, ho, hg, hn⟩ := run_append_own_string (P := P) (ty := tyy) w base T U E ti ht hu hi hz hsize hby v m xs hown ⟨p.toArray⟩ h63 hbytes hbase
  rw [strCells_eq, hs] at ho
  refine ⟨v', w', hr, ho, hg, fun k hk => ?_⟩
  rcases hown.2 with ⟨rfl, rfl⟩ | ⟨b, cap, cur, rfl, hbg, hb, hnc, hcm, hcs, htake⟩
  · have hx : xs = [] := List.eq_nil_of_length_eq_zero (by simpa using hown.1)
    subst hx
    obtain ⟨v2, w2, hr2, ho2, _⟩ := run_append_own_string (P := P) (ty := tyy) w w.heap.size T U E ti ht hu hi hz hsize hby _ 0 [] (World.ownsRow_nil w _ E 1) ⟨p.toArray⟩ h63 hbytes (Nat.le_refl _)
    rw [hr] at hr2
    cases hr2
    exact .inr (World.ownsRow.lt ho2 k hk).1
  · have hcs' : cur.size = cap := by simpa using hcs
    have hxl : xs.length = m := by simpa using hown.1
    by_cases hroom : m + p.length ≤ cap
    · have hr2 := run_append_room_string (P := P) (ty := tyy) w T U E ti ht hu hi hsize b m cap cur hb ⟨p.toArray⟩ hroom (by rw [hs]; omega)
      rw [hr] at hr2
      cases hr2
      exact .inl hk
    · have hc : ∀ j u, xs[j]? = some u → w.cell? ((⟨b, 0, none⟩ : Addr).add j) = some u := World.ownsRow.cells hown rfl
      have hr2 := run_append_grow_string (P := P) (ty := tyy) w T U E ti (.int .u8 0) ht hu hi hz ⟨b, 0, none⟩ m cap xs (by rw [hsize]; simpa using hxl) hc ⟨p.toArray⟩ (by rw [hs]; omega) (by unfold maxLen at h63; omega) (by rw [hby]; exact growslice_fits (by omega) (by omega))
      rw [hr] at hr2
      cases hr2
      simp only [Value.ownBlock] at hk
      simp at hk
      exact .inr (by omega)

/-- string(bytes) -/
theorem y_b2s {x : Operand} {T U E m c : Nat} {oa : Option Addr} {p : List UInt8} (hx : evO kn x = some (.slice oa m c)) (hrd : RdRowP w oa c (bytesL p)) (hm : p.length = m)
    (ht : P.underlying T = some (.slice E)) (he : P.underlying E = some (.int .u8)) (hu : P.underlying U = some .string) : Y P n kn w ⟨some d, .convert T U x, ty, pos, aft, g⟩ (str p) := fun a ha => by
  simp only [execOp, ha.ev hx]
  rcases hrd with ⟨rfl, h0, rfl⟩ | ⟨b, off, rfl, hc⟩
  · obtain rfl : p = [] := by simpa [bytesL] using h0
    have := run_convert_bytes_nil (P := P) w T E ht he m 0 U hu
    simp [this]
    rfl
  · have := run_convert_bytes_arg (P := P) w T E ht he b off m c (p.map fun b => (b.toNat : Int)) (by simpa using hm) (fun i hi => by
      have hi' : i < p.length := by omega
      have h := hc i (.int .u8 (p[i].toNat : Int)) (by simp [bytesL, hi'])
      rw [h]
      simp [List.getD, hi']) U hu
    have e : strOfNums (p.map fun b => (b.toNat : Int)) = ⟨p.toArray⟩ := by
      simp [strOfNums, Function.comp_def]
    simp [this, e]

end
end Sx
namespace Sx
open Go Go.RowKit
section
variable {w0 w : World} {M : List Nat} {hs : List Res}
def pickL {α : Type} (l : List α) : List Nat → Option (List α)
  | [] => some []
  | i :: is => match nth l i with | none => none | some x => match pickL l is with | none => none | some r => some (x :: r)
theorem apart_nth {hs : List Res} (h : Apart hs) : ∀ {i j : Nat} {r s : Res}, i ≠ j → nth hs i = some r → nth hs j = some s → ∀ k ∈ r.at?, k ∉ s.at? := by
  induction hs with
  | nil => intro i j r s _ h; simp [nth] at h
  | cons x xs ih =>
    intro i j r s hij hi hj k hk hk'
    have hp := List.pairwise_cons.1 h
    cases i with
    | zero =>
      cases j with
      | zero => exact hij rfl
      | succ j => simp [nth] at hi hj; subst hi; exact hp.1 s (mem_nth hj) k hk hk'
    | succ i =>
      cases j with
      | zero => simp [nth] at hi hj; subst hj; exact hp.1 r (mem_nth hi) k hk' hk
      | succ j => simp [nth] at hi hj; exact ih hp.2 (by omega) hi hj k hk hk'
theorem mem_pick {α : Type} {l : List α} : ∀ {is : List Nat} {r : List α}, pickL l is = some r → ∀ x ∈ r, ∃ i ∈ is, nth l i = some x
  | [], r, h, x, hx => by simp [pickL] at h; subst h; simp at hx
  | i :: is, r, h, x, hx => by
    simp only [pickL] at h
    split at h
    · cases h
    · rename_i y hy
      split at h
      · cases h
      · rename_i q hq
        cases h
        rcases List.mem_cons.1 hx with rfl | hx
        · exact ⟨i, .head _, hy⟩
        · obtain ⟨j, hj, hn⟩ := mem_pick hq x hx
          exact ⟨j, .tail _ hj, hn⟩
/-- some of what is held, in another order -/
theorem St.pick (st : St w0 M hs w) (is : List Nat) {hs' : List Res} (h : pickL hs is = some hs') (hn : is.Nodup) : St w0 M hs' w := by
  refine ⟨st.chg, ?_, fun r hr => ?_⟩
  · have hnd := st.nodup
    clear st
    induction is generalizing hs' with
    | nil => simp [pickL] at h; subst h; exact List.Pairwise.nil
    | cons i is ih =>
      simp only [pickL] at h
      split at h
      · cases h
      · rename_i y hy
        split at h
        · cases h
        · rename_i q hq
          cases h
          have hn' := List.nodup_cons.1 hn
          refine List.pairwise_cons.2 ⟨fun s hs k hk => ?_, ih hq hn'.2⟩
          obtain ⟨j, hj, hs⟩ := mem_pick hq s hs
          exact apart_nth hnd (fun e => hn'.1 (by subst e; exact hj)) hy hs k hk
  · obtain ⟨i, _, hi⟩ := mem_pick h r hr
    exact st.here r (mem_nth hi)
end
end Sx


/- The engine, sixteenth part: arrays that are values; arrays in memory; the neg of a number. -/
namespace Sx
open Go Go.RowKit
set_option linter.unusedVariables false
set_option linter.unusedSimpArgs false
section
variable {w0 w w' : World} {M : List Nat} {hs : List Res}
variable {P : Program} {n : Fr} {L : List Oper} {Q : Exit → Act → World → Prop} {kn : Kn} {N : Act → World → Prop}
variable {d ty : Nat} {pos : String} {aft : Array Edge} {g : Option (Nat × Bool)}

theorem y_neg {T : Nat} {x : Operand} {k : IntKind} {p r : Int} (hx : evO kn x = some (.int k p)) (hr : k.wrap (0 - p) = r) : Y P n kn w ⟨some d, .unOp .neg T x, ty, pos, aft, g⟩ (.int k r) := fun a ha => by
  subst hr
  simp only [execOp, ha.ev hx]
  simp [Op.unary, Op.intArith, go_sem]
theorem run_part1 {T off : Nat} {cs : List Value} {v : Value} (ha : ∀ w, (Go.isAgg T).run P w = .ok false w) (hv : nth cs off = some v) : (part T cs.toArray off).run P w = .ok v w := by
  rw [nth_eq] at hv
  unfold part
  simp [ha, hv]
/-- a[i:] of an array in memory -/
theorem y_sla {T E i sz len b off : Nat} {x lo : Operand} {ik : IntKind} {ii : Int} (hx : evO kn x = some (.pointer (some ⟨b, off, none⟩))) (hlo : evO kn lo = some (.int ik ii)) (ht : P.underlying T = some (.array len E))
    (hs : ∀ w, (Go.sizeOf E).run P w = .ok sz w) (hi : ii = (i : Int)) (hlt : i < len) : Y P n kn w ⟨some d, .slice T x (some lo) none none, ty, pos, aft, g⟩ (.slice (some ⟨b, off + i * sz, none⟩) (len - i) (len - i)) := fun a hk => by
  subst hi
  have h1 : i ≤ len := by omega
  have h2 : ¬ len = i := by omega
  simp only [execOp, Option.map_some, Option.map_none, hk.ev hx, hk.ev hlo]
  simp [Instr.sliceAt, Instr.sliceBounds, Instr.sliceBound, asIntOf, run_underlying ht, Instr.sureAddr, h1, h2, hs, addr_add]
/-- a store into a block that is known, at a place that is reckoned -/
theorem e_sta (st : St w0 M hs w) (i : Nat) {x y : Operand} {T b off E : Nat} {l l' : List Value} {v : Value} (hw : gd L kn g = some true) (hx : evO kn x = some (.pointer (some ⟨b, off, none⟩)))
    (hy : evO kn y = some v) (h1 : v.oneCell' = true) (hsz : ∀ w, (Go.sizeOf T).run P w = .ok 1 w)
    (hi : nth hs i = some (.blk b (.cells l.toArray E (0, 0)))) (hlt : off < l.length) (hl : l.set off v = l') (hm : b ∈ M ∨ w0.heap.size ≤ b)
    (next : ∀ w', St w0 M (setNth hs i (.blk b (.cells l'.toArray E (0, 0)))) w' → vN n N kn w') : vS P n L Q (⟨none, .store T x y, ty, pos, aft, g⟩) N kn w := by
  refine e_st st i hw hx hy h1 hsz hi (by simpa [Nat.blt_eq] using hlt) hm (fun w' st' => next w' ?_)
  rw [setNth_eq l off v, hl] at st'
  exact st'
end
end Sx


/- The engine, fourteenth part: arguments opened, and shut as they were. -/
namespace Sx
open Go Go.RowKit
set_option linter.unusedVariables false
set_option linter.unusedSimpArgs false

theorem exists_list {α : Type} (d : α) : ∀ (n : Nat) (P : Nat → α → Prop), (∀ i, i < n → ∃ x, P i x) → ∃ l : List α, l.length = n ∧ ∀ i, i < n → P i (l.getD i d)
  | 0, P, h => ⟨[], rfl, fun i hi => by omega⟩
  | n + 1, P, h => by
    obtain ⟨x, hx⟩ := h 0 (by omega)
    obtain ⟨l, hl, hP⟩ := exists_list d n (fun i => P (i + 1)) (fun i hi => h (i + 1) (by omega))
    refine ⟨x :: l, by simp [hl], fun i hi => ?_⟩
    cases i with
    | zero => simpa using hx
    | succ i => simpa using hP i (by omega)

section
variable {H : Type} {enc : TypeId × Value → H} {P : Program}

theorem trod_shut (hl : laidOutB P = true) {w w' : World} (hb : Below w.heap.size w w') {t : TypeId} {v : Value} {d : DataW H} {ps : List MemPlace} (hr : P.readableRec t = true) (ht : t < P.types.size)
    (h : DataW.Trod enc P w 0 (fun _ => true) true t v d ps) (hlt : ∀ x ∈ ps, x.block < w.heap.size) : DataW.Trod enc P w' 0 (fun b => decide (b < w.heap.size)) true t v d ps := by
  obtain ⟨fuel, hf⟩ := h
  exact ⟨fuel, DataW.trod_stays (kids_book hl hr) (book_sized hr) (fun h => by cases h) ⟨ht, book_self t⟩ hf (fun x hx => hb.same (hlt x hx)) (fun x hx => by simpa using hlt x hx)⟩

/-- all arguments read as they did, where nothing that was there has changed -/
theorem trodAll_shut (hl : laidOutB P = true) {w w' : World} (hb : Below w.heap.size w w') : ∀ {ts : List TypeId} {vs : List Value} {ds : List (DataW H)} {ps : List MemPlace}, (ts.all fun t => P.readableRec t && decide (t < P.types.size)) = true →
    DataW.TrodAll enc P w 0 (fun _ => true) true ts vs ds ps → (∀ x ∈ ps, x.block < w.heap.size) → DataW.TrodAll enc P w' 0 (fun b => decide (b < w.heap.size)) true ts vs ds ps
  | [], [], [], ps, _, h, _ => h
  | t :: ts, v :: vs, d :: ds, ps, hr, h, hlt => by
    obtain ⟨p, q, h1, h2, rfl⟩ := h
    simp only [List.all_cons, Bool.and_eq_true, decide_eq_true_eq] at hr
    exact ⟨p, q, trod_shut hl hb hr.1.1 hr.1.2 h1 (fun x hx => hlt x (List.mem_append.2 (.inl hx))), trodAll_shut hl hb (by simpa using hr.2) h2 (fun x hx => hlt x (List.mem_append.2 (.inr hx))), rfl⟩
  | [], [], _ :: _, _, _, h, _ => h.elim
  | [], _ :: _, _, _, _, h, _ => h.elim
  | _ :: _, [], _, _, _, h, _ => h.elim
  | _ :: _, _ :: _, [], _, _, h, _ => h.elim

/-- a slice of structs -/
theorem open_row {w : World} {fuel : Nat} {t e : TypeId} {sz : Nat} {v : Value} {d : DataW H} {ps : List MemPlace} (ht : P.underlying t = some (.slice e)) (hsz : P.cellsOf e = sz) (h0 : 0 < sz)
    (h : DataW.trod enc P w 0 (fun _ => true) true fuel t [v] = some (d, ps)) : ∃ (oa : Option Addr) (len cap n : Nat) (elems rest : List (DataW H)), v = .slice oa len cap ∧ elems.length = len ∧ len ≤ cap ∧ cap ≤ maxLen ∧ n < fuel ∧
      ((d = .nil ∧ len = 0 ∧ cap = 0 ∧ oa = none) ∨ d = .slice elems rest) ∧ (len = 0 ∨ ∃ b off, oa = some ⟨b, off, none⟩ ∧ ∀ j, j < len → ∃ cs pp dd, cs.length = sz ∧ elems[j]? = some dd ∧ DataW.trod enc P w 0 (fun _ => true) true n e cs = some (dd, pp) ∧
        ∀ i u, cs[i]? = some u → w.cell? ⟨b, off + j * sz + i, none⟩ = some u) := by
  rcases DataW.trod_slice ht h with ⟨hc, hx⟩ | ⟨a, len, cap, elems, rest, n, rfl, hc, hx, hb, hlc, hcm, hlen, hel, -⟩
  · simp only [List.cons.injEq, and_true] at hc
    subst hc
    simp only [Prod.mk.injEq] at hx
    have hf : 0 < fuel := by
      cases fuel with
      | zero => simp [DataW.trod] at h
      | succ m => omega
    exact ⟨none, 0, 0, 0, [], [], rfl, rfl, Nat.le_refl _, Nat.zero_le _, hf, .inl ⟨hx.1, rfl, rfl, rfl⟩, .inl rfl⟩
  · simp only [List.cons.injEq, and_true] at hc
    subst hc
    simp only [Prod.mk.injEq] at hx
    refine ⟨some a, len, cap, n, elems.map (·.1), rest.map (·.1), rfl, by simpa using hlen, hlc, hcm, by omega, .inr hx.1, ?_⟩
    rcases Nat.eq_zero_or_pos len with hl0 | hl0
    · exact .inl hl0
    right
    have each : ∀ j, j < len → ∃ cs pp dd, cs.length = sz ∧ (elems.map (·.1))[j]? = some dd ∧ DataW.trod enc P w 0 (fun _ => true) true n e cs = some (dd, pp) ∧ ∀ i u, cs[i]? = some u → w.cell? ((a.add (j * sz)).add i) = some u := by
      intro j hj
      have h1 := hel j hj
      rw [hsz, List.getElem?_eq_getElem (by omega : j < elems.length), Option.bind_eq_some_iff] at h1
      obtain ⟨cs, hcs, htr⟩ := h1
      obtain ⟨-, hcl, hcell⟩ := World.cells?_some hcs
      refine ⟨cs, elems[j].2, elems[j].1, hcl, by simp [List.getElem?_eq_getElem (by omega : j < elems.length)], htr, fun i u hi => ?_⟩
      have hlt : i < sz := by have := (List.getElem?_eq_some_iff.1 hi).1; omega
      rw [hcell i hlt, hi]
    obtain ⟨b, off, spot⟩ := a
    have hspot : spot = none := by
      obtain ⟨cs, pp, dd, hcl, -, -, hc⟩ := each 0 hl0
      have : 0 < cs.length := by omega
      have h2 := hc 0 cs[0] (by simp [this])
      rw [Nat.zero_mul, addr_add0, addr_add0] at h2
      exact World.cell?_spot h2
    subst hspot
    refine ⟨b, off, rfl, fun j hj => ?_⟩
    obtain ⟨cs, pp, dd, hcl, he, htr, hc⟩ := each j hj
    refine ⟨cs, pp, dd, hcl, he, htr, fun i u hi => ?_⟩
    have := hc i u hi
    rwa [addr_add, addr_add] at this
end
end Sx


namespace Go.Proofs.YtnmhlpnapgojjaaDoor
open Go.RowKit Sx LexS _root_.Go.Proofs.Tryd
set_option linter.unusedVariables false
set_option linter.unusedSimpArgs false
/-- the table of signs lies where the program has it -/
def Sig (w : World) : Prop := ∀ k, k < 19 → w.cell? ⟨0, k * 2, none⟩ = some (str (sgn k)) ∧ w.cell? ⟨0, k * 2 + 1, none⟩ = some (.int .i64 (lvl k))
theorem Sig.kept {w w' : World} (h : Sig w) (c : Chg [] w w') : Sig w' := fun k hk => ⟨c.cell (h k hk).1 (by simp), c.cell (h k hk).2 (by simp)⟩

theorem known_any (k : Int) (w : World) : Ret Tryd.prog 120 [.int .u8 k] w fun v w' => v = .bool (knownOp k) ∧ w' = w := by
 refine ret_of [_] func120 rfl ntmps120 rfl ?_
 have st := St.init w []
 refine vc_seq (vc_region ?_)
 refine vc_y rfl rfl (y_as rfl) ?_
 refine vc_end (vq_then (vc_keep [(0, _)] ⟨rfl, trivial⟩ (vc_seq (vc_region ?_))))
 refine vc_y rfl rfl (y_mv rfl) ?_
 refine vc_y rfl rfl (y_gtr rfl rfl) ?_
 refine vc_e (e_mvb rfl rfl rfl ?_ ?_)
 ·
  intro hg5
  try simp only [dn] at hg5
  refine vc_y rfl rfl (y_mv rfl) ?_
  refine vc_y rfl rfl (y_lss rfl rfl) ?_
  refine vc_y rfl rfl (y_pickt rfl rfl) ?_
  refine vc_y rfl rfl (y_as rfl) ?_
  refine vc_end (vq_then (vc_keep [(2, _)] ⟨rfl, trivial⟩ (vc_ret ?_)))
  refine vq_ret1 st (.inl rfl) results120 (.tmp rfl) ?_
  refine ⟨_, rfl, ?_⟩
  refine ⟨?_, rfl⟩
  congr 1
  unfold knownOp
  first | (rw [Bool.eq_iff_iff]; simp; omega) | (symm; simp; omega)
 ·
  intro hg5
  try simp only [dn] at hg5
  iterate 2 refine vc_e (e_skip rfl rfl ?_)
  refine vc_y rfl rfl (y_pickf rfl rfl) ?_
  refine vc_y rfl rfl (y_as rfl) ?_
  refine vc_end (vq_then (vc_keep [(2, _)] ⟨rfl, trivial⟩ (vc_ret ?_)))
  refine vq_ret1 st (.inl rfl) results120 (.tmp rfl) ?_
  refine ⟨_, rfl, ?_⟩
  refine ⟨?_, rfl⟩
  congr 1
  unfold knownOp
  first | (rw [Bool.eq_iff_iff]; simp; omega) | (symm; simp; omega)

theorem two_any (k : Int) (w : World) : Ret Tryd.prog 94 [.int .u8 k] w fun v w' => v = .bool (twoOp k) ∧ w' = w := by
 refine ret_of [_] func94 rfl ntmps94 rfl ?_
 have st := St.init w []
 refine vc_seq (vc_region ?_)
 refine vc_y rfl rfl (y_as rfl) ?_
 refine vc_end (vq_then (vc_keep [(0, _)] ⟨rfl, trivial⟩ (vc_seq (vc_region ?_))))
 refine vc_y rfl rfl (y_mv rfl) ?_
 refine vc_e (e_call [_] rfl rfl call120 rfl (known_any _ _) ?_)
 rintro _ _ ⟨rfl, rfl⟩
 refine vc_e (e_mvb rfl rfl rfl ?_ ?_)
 ·
  intro hg5
  try simp only [dn] at hg5
  refine vc_y rfl rfl (y_mv rfl) ?_
  refine vc_y rfl rfl (y_nei rfl rfl) ?_
  refine vc_y rfl rfl (y_pickt rfl rfl) ?_
  refine vc_e (e_mvb rfl rfl rfl ?_ ?_)
  ·
   intro hg9
   try simp only [dn] at hg9
   refine vc_y rfl rfl (y_mv rfl) ?_
   refine vc_y rfl rfl (y_nei rfl rfl) ?_
   refine vc_y rfl rfl (y_pickt rfl rfl) ?_
   refine vc_y rfl rfl (y_as rfl) ?_
   refine vc_end (vq_then (vc_keep [(2, _)] ⟨rfl, trivial⟩ (vc_ret ?_)))
   refine vq_ret1 st (.inl rfl) results94 (.tmp rfl) ?_
   refine ⟨_, rfl, ?_⟩
   refine ⟨?_, rfl⟩
   show Value.bool _ = Value.bool _
   congr 1
   unfold knownOp at *
   unfold twoOp
   simp only [decide_eq_true_eq, decide_eq_false_iff_not, Bool.not_eq_true', Bool.not_eq_false'] at *
   first | (symm; rw [decide_eq_false_iff_not]; omega) | (rw [Bool.eq_iff_iff]; simp only [Bool.not_eq_true', decide_eq_false_iff_not, decide_eq_true_eq]; omega)
  ·
   intro hg9
   try simp only [dn] at hg9
   iterate 2 refine vc_e (e_skip rfl rfl ?_)
   refine vc_y rfl rfl (y_pickf rfl rfl) ?_
   refine vc_y rfl rfl (y_as rfl) ?_
   refine vc_end (vq_then (vc_keep [(2, _)] ⟨rfl, trivial⟩ (vc_ret ?_)))
   refine vq_ret1 st (.inl rfl) results94 (.tmp rfl) ?_
   refine ⟨_, rfl, ?_⟩
   refine ⟨?_, rfl⟩
   show Value.bool _ = Value.bool _
   congr 1
   unfold knownOp at *
   unfold twoOp
   simp only [decide_eq_true_eq, decide_eq_false_iff_not, Bool.not_eq_true', Bool.not_eq_false'] at *
   first | (symm; rw [decide_eq_false_iff_not]; omega) | (rw [Bool.eq_iff_iff]; simp only [Bool.not_eq_true', decide_eq_false_iff_not, decide_eq_true_eq]; omega)
 ·
  intro hg5
  try simp only [dn] at hg5
  iterate 2 refine vc_e (e_skip rfl rfl ?_)
  refine vc_y rfl rfl (y_pickf rfl rfl) ?_
  refine vc_y rfl rfl (y_mv rfl) ?_
  iterate 2 refine vc_e (e_skip rfl rfl ?_)
  refine vc_y rfl rfl (y_pickf rfl rfl) ?_
  refine vc_y rfl rfl (y_as rfl) ?_
  refine vc_end (vq_then (vc_keep [(2, _)] ⟨rfl, trivial⟩ (vc_ret ?_)))
  refine vq_ret1 st (.inl rfl) results94 (.tmp rfl) ?_
  refine ⟨_, rfl, ?_⟩
  refine ⟨?_, rfl⟩
  show Value.bool _ = Value.bool _
  congr 1
  unfold knownOp at *
  unfold twoOp
  simp only [decide_eq_true_eq, decide_eq_false_iff_not, Bool.not_eq_true', Bool.not_eq_false'] at *
  first | (symm; rw [decide_eq_false_iff_not]; omega) | (rw [Bool.eq_iff_iff]; simp only [Bool.not_eq_true', decide_eq_false_iff_not, decide_eq_true_eq]; omega)

theorem show_any (k : Int) (w : World) (hs : Sig w) : Ret Tryd.prog 97 [.int .u8 k] w fun v w' => v = str (if knownOp k = true then sgn k.toNat else []) ∧ w' = w := by
 refine ret_of [_] func97 rfl ntmps97 rfl ?_
 have st := St.init w []
 refine vc_seq (vc_region ?_)
 refine vc_y rfl rfl (y_as rfl) ?_
 refine vc_end (vq_then (vc_keep [(0, _)] ⟨rfl, trivial⟩ (vc_seq (vc_seq (vc_region ?_)))))
 refine vc_y rfl rfl (y_mv rfl) ?_
 refine vc_e (e_call [_] rfl rfl call120 rfl (known_any _ _) ?_)
 rintro _ _ ⟨rfl, rfl⟩
 refine vc_y rfl rfl (y_not rfl) ?_
 refine vc_end (vq_then (vc_keep [(0, _), (5, _)] ⟨rfl, rfl, trivial⟩ ?_))
 refine vc_ifs rfl ?_ ?_
 ·
  intro hc5
  try simp only [dn] at hc5
  refine vc_seq (vc_region ?_)
  refine vc_y rfl rfl (y_as rfl) ?_
  refine vc_end (vq_then (vc_keep [(2, _)] ⟨rfl, trivial⟩ (vc_ret (vq_then_ret ?_))))
  refine vq_ret1 st (.inl rfl) results97 (.tmp rfl) ?_
  refine ⟨_, rfl, ?_⟩
  refine ⟨?_, rfl⟩
  rw [if_neg (by simpa using hc5)]
 ·
  intro hc5
  try simp only [dn] at hc5
  have hk : 0 < k ∧ k < 19 := by simpa [knownOp] using hc5
  obtain ⟨m, rfl⟩ : ∃ m : Nat, k = (m : Int) := ⟨k.toNat, by omega⟩
  refine vc_code_skip (vq_then (vc_keep [(0, _)] ⟨rfl, trivial⟩ (vc_seq (vc_region ?_))))
  refine vc_y rfl rfl (y_mv rfl) ?_
  refine vc_y rfl rfl (y_iaa (k := m) rfl rfl underlying152 sizeOf151 rfl (by omega)) ?_
  refine vc_y rfl rfl (y_fa0 rfl underlying151 rfl rfl sizeOf9 rfl) ?_
  refine vc_y rfl rfl ((by exact y_ldc rfl isAgg9 (by have h := (hs m (by omega)).1; rw [Nat.zero_add]; exact h))) ?_
  refine vc_y rfl rfl (y_as rfl) ?_
  refine vc_end (vq_then (vc_keep [(2, _)] ⟨rfl, trivial⟩ (vc_ret ?_)))
  refine vq_ret1 st (.inl rfl) results97 (.tmp rfl) ?_
  refine ⟨_, rfl, ?_⟩
  refine ⟨?_, rfl⟩
  rw [if_pos (by simpa using hc5)]
  rfl

abbrev zs (k : Nat) : List Value := List.replicate k (.int .u8 0)
theorem zs_set (k : Nat) (t : List UInt8) (c : UInt8) (x : Int) (hx : (c.toNat : Int) = x) (hk : 0 < k) : (zs k ++ bytesL t).set (k - 1) (.int .u8 x) = zs (k - 1) ++ bytesL (c :: t) := by
 obtain ⟨m, rfl⟩ : ∃ m, k = m + 1 := ⟨k - 1, by omega⟩
 have e : zs (m + 1) = zs m ++ [.int .u8 0] := by simp [zs, List.replicate_succ']
 rw [e, Nat.add_sub_cancel, List.append_assoc, List.set_append_right _ _ (by simp)]
 subst hx
 simp
theorem zs_len (k : Nat) (t : List UInt8) : (zs k ++ bytesL t).length = k + t.length := by simp
theorem blk_rd {w : World} {b k E : Nat} {t : List UInt8} {c : Nat} (h : w.heap[b]? = some (.cells (zs k ++ bytesL t).toArray E (0, 0))) : RdRowP w (some ⟨b, 0 + k * 1, none⟩) c (bytesL t) :=
 .inr ⟨b, 0 + k * 1, rfl, fun j u hj => cell_blk h (by
   rw [nth_eq, List.getElem?_append_right (by simp)]
   simpa [show 0 + k * 1 + j - k = j by omega] using hj)⟩

set_option maxHeartbeats 1000000 in
theorem wprint_any (x : Int) (w : World) (hx : -9223372036854775808 ≤ x ∧ x ≤ 9223372036854775807) : Ret Tryd.prog 48 [.int .i64 x] w fun v w' => v = str (shw x) ∧ Chg [] w w' := by
 refine ret_of [_] func48 rfl ntmps48 rfl ?_
 have st := St.init w []
 obtain ⟨w0, rfl⟩ : ∃ w0, w0 = w := ⟨_, rfl⟩
 have hdl := dec_len 18 x.natAbs (by simp only [Nat.reducePow, Nat.reduceAdd]; omega)
 refine vc_seq (vc_region ?_)
 refine vc_y rfl rfl (y_as rfl) ?_
 refine vc_end (vq_then (vc_keep [(0, _)] ⟨rfl, trivial⟩ (vc_seq (vc_region ?_))))
 refine vc_e (e_al (l := [_, _, _, _, _, _, _, _, _, _, _, _, _, _, _, _, _, _, _, _]) st rfl rfl zeroValue108 rfl ?_)
 intro b3 w hb3 st
 refine vc_end (vq_then (vc_keep [(0, _), (3, _)] ⟨rfl, rfl, trivial⟩ (vc_seq (vc_region ?_))))
 refine vc_y rfl rfl (y_as rfl) ?_
 refine vc_end (vq_then (vc_keep [(0, _), (3, _), (4, _)] ⟨rfl, rfl, rfl, trivial⟩ (vc_seq (vc_region ?_))))
 refine vc_y rfl rfl (y_mv rfl) ?_
 refine vc_y rfl rfl (y_cvi rfl underlying109 underlying2 (rfl : _ = IntKind.u64.wrap x)) ?_
 refine vc_y rfl rfl (y_as rfl) ?_
 refine vc_end (vq_then (vc_keep [(0, _), (3, _), (4, _), (5, _)] ⟨rfl, rfl, rfl, rfl, trivial⟩ ?_))
 refine vc_cut (w0 := w0) (M := []) (fun (_ : Unit) => [(0, .int .i64 x), (3, .pointer (some ⟨b3, 0, none⟩)), (4, .int .i64 20), (5, .int .u64 (x.natAbs : Int))]) (fun _ => [.blk b3 (.cells (zs 20 ++ bytesL []).toArray 108 (0, 0))]) (fun _ _ => True) ?_ ?_
 ·
  refine vc_seq (vc_region ?_)
  refine vc_y rfl rfl (y_mv rfl) ?_
  refine vc_y rfl rfl (y_lss rfl rfl) ?_
  refine vc_end (vq_then (vc_keep [(0, _), (3, _), (4, _), (5, _), (9, _)] ⟨rfl, rfl, rfl, rfl, rfl, trivial⟩ ?_))
  refine vc_ifs rfl ?_ ?_
  ·
   intro hc9
   try simp only [dn] at hc9
   refine vc_region ?_
   refine vc_y rfl rfl (y_mv rfl) ?_
   refine vc_y rfl rfl (y_neg rfl (by rw [wrap_u64, wrap_u64]; omega : _ = (x.natAbs : Int))) ?_
   refine vc_y rfl rfl (y_as rfl) ?_
   refine vc_end ?_
   exact vq_meet () ⟨rfl, rfl, rfl, rfl, trivial⟩ st trivial
  ·
   intro hc9
   try simp only [dn] at hc9
   refine vc_code_skip ?_
   exact vq_meet () ⟨rfl, rfl, rfl, by simp only [find, Nat.beq]; congr 2; rw [wrap_u64]; omega, trivial⟩ st trivial
 ·
  clear st
  rintro ⟨⟩ w - st
  refine vc_seq (vc_block ?_)
  refine vc_loop (w0 := _) (M := _) (fun (y : Nat × Nat × List UInt8) => [(0, .int .i64 x), (3, .pointer (some ⟨b3, 0, none⟩)), (4, .int .i64 (y.1 : Int)), (5, .int .u64 (y.2.1 : Int))]) (fun y => [.blk b3 (.cells (zs y.1 ++ bytesL y.2.2).toArray 108 (0, 0))]) (fun y _ => y.1 + y.2.2.length = 20 ∧ dec y.2.1 ++ y.2.2 = dec x.natAbs ∧ y.2.1 ≤ x.natAbs) (fun y => y.1) (20, x.natAbs, []) ⟨rfl, rfl, rfl, rfl, trivial⟩ st ⟨rfl, by simp, by simp⟩ ?_
  rintro ⟨at_, n, t⟩ w ⟨hat, hdec, hnx⟩ st
  dsimp only at *
  have hdp := dec_pos n
  have hlen := congrArg List.length hdec
  rw [List.length_append] at hlen
  obtain ⟨hdg1, hdg2⟩ := digit_of (Nat.mod_lt n (by omega : 0 < 10))
  refine vc_block (vc_seq (vc_region ?_))
  refine vc_y rfl rfl (y_mv rfl) ?_
  refine vc_y rfl rfl (y_sub rfl rfl (by omega : _ = ((at_ - 1 : Nat) : Int)) (by omega) (by omega)) ?_
  refine vc_y rfl rfl (y_as rfl) ?_
  refine vc_end (vq_then (vc_keep [(0, _), (3, _), (4, _), (5, _)] ⟨rfl, rfl, rfl, rfl, trivial⟩ (vc_seq (vc_region ?_))))
  iterate 2 refine vc_y rfl rfl (y_mv rfl) ?_
  refine vc_y rfl rfl (y_remk rfl rfl (by omega) (by omega) (by omega : _ = ((n % 10 : Nat) : Int))) ?_
  refine vc_y rfl rfl (y_addk rfl rfl (by rw [wrap_u64]; omega : _ = ((48 + n % 10 : Nat) : Int))) ?_
  refine vc_y rfl rfl (y_cvi rfl underlying5 underlying109 (by rw [wrap_u8]; omega : _ = ((48 + n % 10 : Nat) : Int))) ?_
  refine vc_y rfl rfl (y_iaa (k := (at_ - 1)) rfl rfl underlying108 sizeOf5 rfl (by omega)) ?_
  refine vc_e (e_sta (l' := zs (at_ - 1) ++ bytesL (UInt8.ofNat (48 + n % 10) :: t)) st 0 rfl rfl rfl rfl sizeOf5 rfl (by rw [zs_len]; omega) (by rw [show 0 + (at_ - 1) * 1 = at_ - 1 by omega]; exact zs_set at_ t (UInt8.ofNat (48 + n % 10)) _ (by rw [hdg2]) (by omega)) (.inr hb3) ?_)
  intro w st; dsimp only [setNth] at st
  refine vc_end (vq_then (vc_keep [(0, _), (3, _), (4, _), (5, _)] ⟨rfl, rfl, rfl, rfl, trivial⟩ (vc_seq (vc_region ?_))))
  refine vc_y rfl rfl (y_mv rfl) ?_
  refine vc_y rfl rfl (y_quok rfl rfl (by omega) (by omega) (by rw [wrap_u64]; omega : _ = ((n / 10 : Nat) : Int))) ?_
  refine vc_y rfl rfl (y_as rfl) ?_
  refine vc_end (vq_then (vc_keep [(0, _), (3, _), (4, _), (5, _)] ⟨rfl, rfl, rfl, rfl, trivial⟩ (vc_seq (vc_region ?_))))
  refine vc_y rfl rfl (y_mv rfl) ?_
  refine vc_y rfl rfl (y_eqi rfl rfl) ?_
  refine vc_end (vq_then (vc_keep [(0, _), (3, _), (4, _), (5, _), (23, _)] ⟨rfl, rfl, rfl, rfl, rfl, trivial⟩ ?_))
  refine vc_ifs rfl ?_ ?_
  ·
   intro hc23
   try simp only [dn] at hc23
   have hn : n < 10 := by omega
   have hfin : UInt8.ofNat (48 + n % 10) :: t = dec x.natAbs := by rw [← hdec, dec_small hn, Nat.mod_eq_of_lt hn]; rfl
   rw [hfin] at st
   have hlen2 := congrArg List.length hfin
   simp only [List.length_cons] at hlen2
   refine vc_exit (vq_block_other rfl (vq_then_exit (vq_block_exit (vq_then (vc_keep [(0, _), (3, _), (4, _)] ⟨rfl, rfl, rfl, trivial⟩ (vc_seq (vc_seq (vc_region ?_))))))))
   refine vc_y rfl rfl (y_mv rfl) ?_
   refine vc_y rfl rfl (y_lss rfl rfl) ?_
   refine vc_end (vq_then (vc_keep [(3, _), (4, _), (25, _)] ⟨rfl, rfl, rfl, trivial⟩ ?_))
   refine vc_ifs rfl ?_ ?_
   ·
    intro hc25
    try simp only [dn] at hc25
    refine vc_seq (vc_region ?_)
    refine vc_y rfl rfl (y_mv rfl) ?_
    refine vc_y rfl rfl (y_sub rfl rfl (by omega : _ = ((at_ - 2 : Nat) : Int)) (by omega) (by omega)) ?_
    refine vc_y rfl rfl (y_as rfl) ?_
    refine vc_end (vq_then (vc_keep [(3, _), (4, _)] ⟨rfl, rfl, trivial⟩ (vc_region ?_)))
    refine vc_y rfl rfl (y_mv rfl) ?_
    refine vc_y rfl rfl (y_iaa (k := (at_ - 2)) rfl rfl underlying108 sizeOf5 rfl (by omega)) ?_
    refine vc_e (e_sta (l' := zs (at_ - 2) ++ bytesL (45 :: dec x.natAbs)) st 0 rfl rfl rfl rfl sizeOf5 rfl (by rw [zs_len]; omega) (by rw [show 0 + (at_ - 2) * 1 = (at_ - 1) - 1 by omega]; have := zs_set (at_ - 1) (dec x.natAbs) 45 45 (by rfl) (by omega); rw [show at_ - 1 - 1 = at_ - 2 by omega] at this ⊢; exact this) (.inr hb3) ?_)
    intro w st; dsimp only [setNth] at st
    refine vc_end (vq_then (vc_keep [(3, _), (4, _)] ⟨rfl, rfl, trivial⟩ (vc_seq (vc_region ?_))))
    refine vc_y rfl rfl (y_mv rfl) ?_
    refine vc_y rfl rfl (y_sla (i := _) rfl rfl underlying108 sizeOf5 rfl (by omega)) ?_
    refine vc_y rfl rfl (y_b2s rfl (blk_rd (st.res (i := 0) rfl)) (by first | (simp only [List.length_cons]; omega) | omega) underlying45 underlying5 underlying9) ?_
    refine vc_y rfl rfl (y_as rfl) ?_
    refine vc_end (vq_then (vc_keep [(2, _)] ⟨rfl, trivial⟩ (vc_ret ?_)))
    refine vq_ret1 st (.inl rfl) results48 (.tmp rfl) ?_
    refine ⟨_, rfl, ?_⟩
    refine ⟨?_, st.chg⟩
    unfold shw
    rw [if_pos (by omega)]
   ·
    intro hc25
    try simp only [dn] at hc25
    refine vc_code_skip (vq_then (vc_keep [(3, _), (4, _)] ⟨rfl, rfl, trivial⟩ (vc_seq (vc_region ?_))))
    refine vc_y rfl rfl (y_mv rfl) ?_
    refine vc_y rfl rfl (y_sla (i := _) rfl rfl underlying108 sizeOf5 rfl (by omega)) ?_
    refine vc_y rfl rfl (y_b2s rfl (blk_rd (st.res (i := 0) rfl)) (by first | (simp only [List.length_cons]; omega) | omega) underlying45 underlying5 underlying9) ?_
    refine vc_y rfl rfl (y_as rfl) ?_
    refine vc_end (vq_then (vc_keep [(2, _)] ⟨rfl, trivial⟩ (vc_ret ?_)))
    refine vq_ret1 st (.inl rfl) results48 (.tmp rfl) ?_
    refine ⟨_, rfl, ?_⟩
    refine ⟨?_, st.chg⟩
    unfold shw
    rw [if_neg (by omega)]
  ·
   intro hc23
   try simp only [dn] at hc23
   refine vc_code_skip (vq_block ?_)
   refine vq_again (at_ - 1, n / 10, UInt8.ofNat (48 + n % 10) :: t)  ⟨rfl, rfl, rfl, rfl, trivial⟩ st ?_ ?_
   ·
    refine ⟨by simp; omega, ?_, by dsimp only; omega⟩
    dsimp only
    rw [← hdec, dec_big (n := n) (by omega)]; simp
   ·
    dsimp only; omega

end Go.Proofs.YtnmhlpnapgojjaaDoor


/- The engine, eighth part: a statement whose order is drawn, two operations at a time. -/
namespace Sx
open Go Go.RowKit
set_option linter.unusedVariables false
set_option linter.unusedSimpArgs false

inductive Pl where
  | done
  | take (i : Nat) (r : Pl)
  | one (i : Nat) (r : Pl)
  | two (i j : Nat) (r s : Pl)

def Pl.len : Pl → Nat
  | .done => 0
  | .take _ r => r.len + 1
  | .one _ r => r.len + 1
  | .two _ _ r _ => r.len + 1

def plOK (L : Array Oper) : Pl → Array Bool → Bool
  | .done, listed => (Region.ready .any L listed).isEmpty
  | .take i r, listed => (Region.ready .any L listed).contains i && Region.free .any L listed i && plOK L r (listed.setIfInBounds i true)
  | .one i r, listed => (Region.ready .any L listed == [i]) && plOK L r (listed.setIfInBounds i true)
  | .two i j r s, listed => (Region.ready .any L listed == [i, j]) && (r.len == s.len) && plOK L r (listed.setIfInBounds i true) && plOK L s (listed.setIfInBounds j true)

section
variable {P : Program} {n : Fr} {L : List Oper} {Q : Exit → Act → World → Prop} {kn : Kn} {w : World} {S : World → Prop}

def vD (P : Program) (n : Fr) (L : List Oper) (Q : Exit → Act → World → Prop) (S : World → Prop) (plan : Pl) (kn : Kn) (w : World) : Prop :=
  ∀ a listed, okQ Q → Region.noSelect L.toArray = true → K n kn a → plOK L.toArray plan listed = true → wpAnyH P .any L.toArray Q S plan.len listed a w

def ND (P : Program) (L : List Oper) (Q : Exit → Act → World → Prop) (S : World → Prop) (plan : Pl) (a : Act) (w : World) : Prop :=
  S w ∧ (okQ Q → Region.noSelect L.toArray = true → ∀ listed, plOK L.toArray plan listed = true → wpAnyH P .any L.toArray Q S plan.len listed a w)

theorem vd_next {plan : Pl} (hS : S w) (h : S w → vD P n L Q S plan kn w) : vN n (ND P L Q S plan) kn w := fun a ha => ⟨hS, fun hQ hsel listed hl => h hS a listed hQ hsel ha hl⟩

theorem vd_end (h : vcQ n Q .normal kn w) : vD P n L Q S .done kn w := fun a listed hQ hsel ha hl => by
  simp only [plOK, List.isEmpty_iff] at hl
  exact ⟨hl, h a ha⟩

theorem vd_take {i : Nat} {o : Oper} {v : Value} {r : Pl} (hi : nth L i = some o) (hw : gd L kn o.guard = some true) (hd : okDst n o.dst = true)
    (hS : S w) (y : ∀ w', S w' → Y P n kn w' o v) (next : vD P n L Q S r (put o.dst v kn) w) : vD P n L Q S (.take i r) kn w := by
  intro a listed hQ hsel ha hl
  simp only [plOK, Bool.and_eq_true] at hl
  rw [nth_eq] at hi
  exact wpAnyH_take (oi := o) (v := v) (by simpa using hi) hsel hl.1.2 hl.1.1 (fun c a w h => hQ c _ _ w (put_defers _ _ _) h)
    (.inl ⟨ha.gd hw, fun w' hS' => y w' hS' a ha⟩) hS (next _ _ hQ hsel (ha.put hd v) hl.2)

theorem nd_op {i : Nat} {o : Oper} {r : Pl} {a : Act} {listed : Array Bool} (hi : nth L i = some o) (e : vS P n L Q o (ND P L Q S r) kn w) (ha : K n kn a) (hQ : okQ Q) (hsel : Region.noSelect L.toArray = true)
    (hl : plOK L.toArray r (listed.setIfInBounds i true) = true) : wpOp P L.toArray Q i (fun a' w' => S w' ∧ wpAnyH P .any L.toArray Q S r.len (listed.setIfInBounds i true) a' w') a w := by
  rw [nth_eq] at hi
  have he := e a ha
  unfold wpOp
  simp only [List.getElem?_toArray, hi]
  split
  · rename_i hw
    rw [if_pos hw] at he
    exact he.imp (Oper.wp_mono (fun a' w' h => ⟨h.1, h.2 hQ hsel _ hl⟩)) id
  · rename_i hw
    rw [if_neg hw] at he
    exact ⟨he.1, he.2 hQ hsel _ hl⟩

theorem vd_do {i : Nat} {o : Oper} {r : Pl} (hi : nth L i = some o) (e : vS P n L Q o (ND P L Q S r) kn w) : vD P n L Q S (.one i r) kn w := by
  intro a listed hQ hsel ha hl
  simp only [plOK, Bool.and_eq_true, beq_iff_eq] at hl
  refine wpAnyH_all hl.1 (by simp) (fun j hj => ?_)
  obtain rfl : j = i := by simpa using hj
  exact nd_op hi e ha hQ hsel hl.2

theorem vd_two {i j : Nat} {o p : Oper} {r s : Pl} (hi : nth L i = some o) (hj : nth L j = some p) (e : vS P n L Q o (ND P L Q S r) kn w) (f : vS P n L Q p (ND P L Q S s) kn w) : vD P n L Q S (.two i j r s) kn w := by
  intro a listed hQ hsel ha hl
  simp only [plOK, Bool.and_eq_true, beq_iff_eq] at hl
  obtain ⟨⟨⟨h1, h2⟩, h3⟩, h4⟩ := hl
  refine wpAnyH_all h1 (by simp) (fun k hk => ?_)
  have hk' : k = i ∨ k = j := by simpa using hk
  rcases hk' with rfl | rfl
  · exact nd_op hi e ha hQ hsel h3
  · rw [h2]; exact nd_op hj f ha hQ hsel h4

theorem vd_draw {id : Nat} (hm : P.follows .mixedOrders = true) (plan : Pl) (S : World → Prop) (hS0 : S w) (hsel : Region.noSelect L.toArray = true) (hQ : okQ Q) (hlen : plan.len = L.length) (hplan : plOK L.toArray plan (Array.replicate L.length false) = true)
    (h : ∀ w', Chg [] w w' → vD P n L Q S plan kn w') : vcC P n (.region id L.toArray true) Q kn w := by
  intro a ha
  refine wp_region_held (S := S) hm ?_
  have := h w.drew (Chg.drew w) a (Array.replicate L.length false) hQ hsel ha hplan
  rw [hlen] at this
  rw [List.size_toArray]
  exact this
end
end Sx


namespace Go.Proofs.YtnmhlpnapgojjaaDoor
open Go.RowKit Sx LexS _root_.Go.Proofs.Tryd
set_option linter.unusedVariables false
set_option linter.unusedSimpArgs false
theorem cell_nth {w : World} {b off E : Nat} {l : List Value} {v : Value} (h : w.heap[b]? = some (.cells l.toArray E (0, 0))) (hv : nth l off = some v) : w.cell? ⟨b, off, none⟩ = some v := cell_blk h hv

theorem level_any (k : Int) (w : World) (hs : Sig w) : Ret Tryd.prog 95 [.int .u8 k] w fun v w' => v = .int .i64 (lvlO k) ∧ w' = w := by
 refine ret_of [_] func95 rfl ntmps95 rfl ?_
 have st := St.init w []
 refine vc_seq (vc_region ?_)
 refine vc_y rfl rfl (y_as rfl) ?_
 refine vc_end (vq_then (vc_keep [(0, _)] ⟨rfl, trivial⟩ (vc_seq (vc_seq (vc_region ?_)))))
 refine vc_y rfl rfl (y_mv rfl) ?_
 refine vc_e (e_call [_] rfl rfl call120 rfl (known_any _ _) ?_)
 rintro _ _ ⟨rfl, rfl⟩
 refine vc_y rfl rfl (y_not rfl) ?_
 refine vc_end (vq_then (vc_keep [(0, _), (5, _)] ⟨rfl, rfl, trivial⟩ ?_))
 refine vc_ifs rfl ?_ ?_
 ·
  intro hc5
  try simp only [dn] at hc5
  refine vc_seq (vc_region ?_)
  refine vc_y rfl rfl (y_as rfl) ?_
  refine vc_end (vq_then (vc_keep [(2, _)] ⟨rfl, trivial⟩ (vc_ret (vq_then_ret ?_))))
  refine vq_ret1 st (.inl rfl) results95 (.tmp rfl) ?_
  refine ⟨_, rfl, ?_⟩
  refine ⟨?_, rfl⟩
  unfold lvlO
  rw [if_neg (by simpa using hc5)]
 ·
  intro hc5
  try simp only [dn] at hc5
  have hk : 0 < k ∧ k < 19 := by simpa [knownOp] using hc5
  obtain ⟨m, rfl⟩ : ∃ m : Nat, k = (m : Int) := ⟨k.toNat, by omega⟩
  refine vc_code_skip (vq_then (vc_keep [(0, _)] ⟨rfl, trivial⟩ (vc_seq (vc_region ?_))))
  refine vc_y rfl rfl (y_mv rfl) ?_
  refine vc_y rfl rfl (y_iaa (k := m) rfl rfl underlying152 sizeOf151 rfl (by omega)) ?_
  refine vc_y rfl rfl ((by exact y_fa (k := 1) rfl underlying151 rfl rfl sizeOf3 rfl)) ?_
  refine vc_y rfl rfl ((by exact y_ldc rfl isAgg3 (by have h := (hs m (by omega)).2; rw [Nat.zero_add]; exact h))) ?_
  refine vc_y rfl rfl (y_as rfl) ?_
  refine vc_end (vq_then (vc_keep [(2, _)] ⟨rfl, trivial⟩ (vc_ret ?_)))
  refine vq_ret1 st (.inl rfl) results95 (.tmp rfl) ?_
  refine ⟨_, rfl, ?_⟩
  refine ⟨?_, rfl⟩
  unfold lvlO
  rw [if_pos (by simpa using hc5)]
  rfl

theorem named_any (l : List UInt8) (b : Bool) (w : World) : Ret Tryd.prog 78 [str l, .bool b] w fun v w' => v = .bool (if b = true then isName l else decide (l = [])) ∧ w' = w := by
 refine ret_of [_, _] func78 rfl ntmps78 rfl ?_
 have st := St.init w []
 refine vc_seq (vc_region ?_)
 refine vc_y rfl rfl (y_as rfl) ?_
 refine vc_end (vq_then (vc_keep [(0, _), (1, _)] ⟨rfl, rfl, trivial⟩ (vc_seq (vc_region ?_))))
 refine vc_y rfl rfl (y_mv rfl) ?_
 refine vc_e (e_mvb rfl rfl rfl ?_ ?_)
 ·
  intro hg6
  try simp only [dn] at hg6
  refine vc_y rfl rfl (y_mv rfl) ?_
  refine vc_e (e_call [_] rfl rfl call36 rfl (name_any _ _) ?_)
  rintro _ _ ⟨rfl, rfl⟩
  refine vc_y rfl rfl (y_pickt rfl rfl) ?_
  refine vc_e (e_mvb rfl rfl rfl ?_ ?_)
  ·
   intro hg10
   try simp only [dn] at hg10
   iterate 6 refine vc_e (e_skip rfl rfl ?_)
   refine vc_y rfl rfl (y_pickt rfl rfl) ?_
   refine vc_y rfl rfl (y_as rfl) ?_
   refine vc_end (vq_then (vc_keep [(4, _)] ⟨rfl, trivial⟩ (vc_ret ?_)))
   refine vq_ret1 st (.inl rfl) results78 (.tmp rfl) ?_
   refine ⟨_, rfl, ?_⟩
   refine ⟨?_, rfl⟩
   show Value.bool _ = Value.bool _
   congr 1
   cases b <;> simp_all
  ·
   intro hg10
   try simp only [dn] at hg10
   refine vc_y rfl rfl (y_mv rfl) ?_
   refine vc_y rfl rfl (y_not rfl) ?_
   refine vc_e (e_mvb rfl rfl rfl ?_ ?_)
   ·
    intro hg13
    try simp only [dn] at hg13
    refine vc_y rfl rfl (y_mv rfl) ?_
    refine vc_y rfl rfl (y_eqs rfl rfl) ?_
    refine vc_y rfl rfl (y_pickt rfl rfl) ?_
    refine vc_y rfl rfl (y_pickf rfl rfl) ?_
    refine vc_y rfl rfl (y_as rfl) ?_
    refine vc_end (vq_then (vc_keep [(4, _)] ⟨rfl, trivial⟩ (vc_ret ?_)))
    refine vq_ret1 st (.inl rfl) results78 (.tmp rfl) ?_
    refine ⟨_, rfl, ?_⟩
    refine ⟨?_, rfl⟩
    show Value.bool _ = Value.bool _
    congr 1
    cases b <;> simp_all
   ·
    intro hg13
    try simp only [dn] at hg13
    iterate 2 refine vc_e (e_skip rfl rfl ?_)
    iterate 2 refine vc_y rfl rfl (y_pickf rfl rfl) ?_
    refine vc_y rfl rfl (y_as rfl) ?_
    refine vc_end (vq_then (vc_keep [(4, _)] ⟨rfl, trivial⟩ (vc_ret ?_)))
    refine vq_ret1 st (.inl rfl) results78 (.tmp rfl) ?_
    refine ⟨_, rfl, ?_⟩
    refine ⟨?_, rfl⟩
    show Value.bool _ = Value.bool _
    congr 1
    cases b <;> simp_all
 ·
  intro hg6
  try simp only [dn] at hg6
  iterate 2 refine vc_e (e_skip rfl rfl ?_)
  refine vc_y rfl rfl (y_pickf rfl rfl) ?_
  iterate 2 refine vc_y rfl rfl (y_mv rfl) ?_
  refine vc_y rfl rfl (y_not rfl) ?_
  refine vc_e (e_mvb rfl rfl rfl ?_ ?_)
  ·
   intro hg13
   try simp only [dn] at hg13
   refine vc_y rfl rfl (y_mv rfl) ?_
   refine vc_y rfl rfl (y_eqs rfl rfl) ?_
   refine vc_y rfl rfl (y_pickt rfl rfl) ?_
   refine vc_y rfl rfl (y_pickf rfl rfl) ?_
   refine vc_y rfl rfl (y_as rfl) ?_
   refine vc_end (vq_then (vc_keep [(4, _)] ⟨rfl, trivial⟩ (vc_ret ?_)))
   refine vq_ret1 st (.inl rfl) results78 (.tmp rfl) ?_
   refine ⟨_, rfl, ?_⟩
   refine ⟨?_, rfl⟩
   show Value.bool _ = Value.bool _
   congr 1
   cases b <;> simp_all
  ·
   intro hg13
   try simp only [dn] at hg13
   iterate 2 refine vc_e (e_skip rfl rfl ?_)
   iterate 2 refine vc_y rfl rfl (y_pickf rfl rfl) ?_
   refine vc_y rfl rfl (y_as rfl) ?_
   refine vc_end (vq_then (vc_keep [(4, _)] ⟨rfl, trivial⟩ (vc_ret ?_)))
   refine vq_ret1 st (.inl rfl) results78 (.tmp rfl) ?_
   refine ⟨_, rfl, ?_⟩
   refine ⟨?_, rfl⟩
   show Value.bool _ = Value.bool _
   congr 1
   cases b <;> simp_all

end Go.Proofs.YtnmhlpnapgojjaaDoor


/- The engine, fifteenth part: the trees of the language, as memory holds them. -/
namespace Sx
open Go Go.RowKit
set_option linter.unusedVariables false
set_option linter.unusedSimpArgs false

/-- an expression -/
inductive Ex where
  | mk (k op wd : Int) (nm : List UInt8) (kids : List Ex) (a : Int)
/-- a statement -/
inductive Sm where
  | mk (k : Int) (nm other : List UInt8) (e : List Ex) (body els : List Sm) (a : Int)
/-- a declaration -/
structure Dc where
  nm : List UInt8
  wd : Int
  a : Int
/-- a thread -/
structure Th where
  nm : List UInt8
  locals : List Dc
  body : List Sm
  a : Int
/-- a program -/
structure Pg where
  shared : List Dc
  locks : List Dc
  threads : List Th

def ex0 : Ex := .mk 0 0 0 [] [] 0
def sm0 : Sm := .mk 0 [] [] [] [] [] 0
def dc0 : Dc := ⟨[], 0, 0⟩
def th0 : Th := ⟨[], [], [], 0⟩
namespace Ex
def k : Ex → Int | .mk k _ _ _ _ _ => k
def op : Ex → Int | .mk _ op _ _ _ _ => op
def wd : Ex → Int | .mk _ _ wd _ _ _ => wd
def nm : Ex → List UInt8 | .mk _ _ _ nm _ _ => nm
def kids : Ex → List Ex | .mk _ _ _ _ kids _ => kids
def a : Ex → Int | .mk _ _ _ _ _ a => a
end Ex
namespace Sm
def k : Sm → Int | .mk k _ _ _ _ _ _ => k
def nm : Sm → List UInt8 | .mk _ nm _ _ _ _ _ => nm
def other : Sm → List UInt8 | .mk _ _ o _ _ _ _ => o
def e : Sm → List Ex | .mk _ _ _ e _ _ _ => e
def body : Sm → List Sm | .mk _ _ _ _ b _ _ => b
def els : Sm → List Sm | .mk _ _ _ _ _ e _ => e
def a : Sm → Int | .mk _ _ _ _ _ _ a => a
end Sm

/-- a row of things of 'sz' cells, at blocks of 'S' -/
def RowC (w : World) (S : Nat → Prop) (sz : Nat) (oa : Option Addr) (n : Nat) (vs : Nat → List Value) : Prop :=
  n = 0 ∨ ∃ b off, oa = some ⟨b, off, none⟩ ∧ S b ∧ b < w.heap.size ∧ ∀ j, j < n → (vs j).length = sz ∧ ∀ i v, (vs j)[i]? = some v → w.cell? ⟨b, off + j * sz + i, none⟩ = some v

def Same (S : Nat → Prop) (w w' : World) : Prop := w.heap.size ≤ w'.heap.size ∧ ∀ b, S b → b < w.heap.size → w'.heap[b]? = w.heap[b]?
theorem Same.of_chg {M : List Nat} {S : Nat → Prop} {w w' : World} (c : Chg M w w') (h : ∀ b, S b → b ∉ M) : Same S w w' := ⟨c.size, fun b hb hl => c.block b hl (h b hb)⟩
theorem Same.of_nil {S : Nat → Prop} {w w' : World} (c : Chg [] w w') : Same S w w' := .of_chg c (by simp)
theorem RowC.kept {w w' : World} {S : Nat → Prop} {sz : Nat} {oa : Option Addr} {n : Nat} {vs : Nat → List Value} (h : RowC w S sz oa n vs) (k : Same S w w') : RowC w' S sz oa n vs :=
  h.imp id fun ⟨b, off, e, hb, hl, hc⟩ => ⟨b, off, e, hb, Nat.lt_of_lt_of_le hl k.1, fun j hj => ⟨(hc j hj).1, fun i v hi => (World.cell?_of_block (k.2 b hb hl)).trans ((hc j hj).2 i v hi)⟩⟩
theorem RowC.mono {w : World} {S S' : Nat → Prop} {sz : Nat} {oa : Option Addr} {n : Nat} {vs : Nat → List Value} (h : RowC w S sz oa n vs) (k : ∀ b, S b → S' b) : RowC w S' sz oa n vs :=
  h.imp id fun ⟨b, off, e, hb, hl, hc⟩ => ⟨b, off, e, k b hb, hl, hc⟩

/-- an expression's cells -/
inductive ExV (w : World) (S : Nat → Prop) : Ex → List Value → Prop
  | mk {k op wd : Int} {nm : List UInt8} {kids : List Ex} {a : Int} {oa : Option Addr} {cap : Nat} (vs : Nat → List Value) (hr : RowC w S 6 oa kids.length vs) (hk : ∀ j x, kids[j]? = some x → ExV w S x (vs j)) :
      ExV w S (.mk k op wd nm kids a) [.int .u8 k, .int .u8 op, .int .i64 wd, str nm, .slice oa kids.length cap, .int .i64 a]
theorem ExV.kept {w w' : World} {S : Nat → Prop} {e : Ex} {l : List Value} (h : ExV w S e l) (k : Same S w w') : ExV w' S e l := by
  induction h with
  | mk vs hr hk ih => exact .mk vs (hr.kept k) ih
theorem ExV.mono {w : World} {S S' : Nat → Prop} {e : Ex} {l : List Value} (h : ExV w S e l) (k : ∀ b, S b → S' b) : ExV w S' e l := by
  induction h with
  | mk vs hr hk ih => exact .mk vs (hr.mono k) ih
theorem ExV.len {w : World} {S : Nat → Prop} {e : Ex} {l : List Value} (h : ExV w S e l) : l.length = 6 := by cases h; rfl
theorem ExV.one {w : World} {S : Nat → Prop} {e : Ex} {l : List Value} (h : ExV w S e l) : allOne l = true := by cases h; rfl
/-- a row of expressions -/
def ExRow (w : World) (S : Nat → Prop) (oa : Option Addr) (es : List Ex) : Prop := ∃ vs, RowC w S 6 oa es.length vs ∧ ∀ j x, es[j]? = some x → ExV w S x (vs j)
theorem ExRow.kept {w w' : World} {S : Nat → Prop} {oa : Option Addr} {es : List Ex} (h : ExRow w S oa es) (k : Same S w w') : ExRow w' S oa es := by
  obtain ⟨vs, h1, h2⟩ := h
  exact ⟨vs, h1.kept k, fun j x hx => (h2 j x hx).kept k⟩
theorem ExRow.mono {w : World} {S S' : Nat → Prop} {oa : Option Addr} {es : List Ex} (h : ExRow w S oa es) (k : ∀ b, S b → S' b) : ExRow w S' oa es := by
  obtain ⟨vs, h1, h2⟩ := h
  exact ⟨vs, h1.mono k, fun j x hx => (h2 j x hx).mono k⟩
/-- a statement's cells -/
inductive SmV (w : World) (S : Nat → Prop) : Sm → List Value → Prop
  | mk {k : Int} {nm other : List UInt8} {e : List Ex} {body els : List Sm} {a : Int} {oe ob ol : Option Addr} {ce cb cl : Nat} (vb vl : Nat → List Value) (he : ExRow w S oe e)
      (hb : RowC w S 7 ob body.length vb) (hbk : ∀ j x, body[j]? = some x → SmV w S x (vb j)) (hl : RowC w S 7 ol els.length vl) (hlk : ∀ j x, els[j]? = some x → SmV w S x (vl j)) :
      SmV w S (.mk k nm other e body els a) [.int .u8 k, str nm, str other, .slice oe e.length ce, .slice ob body.length cb, .slice ol els.length cl, .int .i64 a]
theorem SmV.kept {w w' : World} {S : Nat → Prop} {s : Sm} {l : List Value} (h : SmV w S s l) (k : Same S w w') : SmV w' S s l := by
  induction h with
  | mk vb vl he hb hbk hl hlk ih1 ih2 => exact .mk vb vl (he.kept k) (hb.kept k) ih1 (hl.kept k) ih2
theorem SmV.mono {w : World} {S S' : Nat → Prop} {s : Sm} {l : List Value} (h : SmV w S s l) (k : ∀ b, S b → S' b) : SmV w S' s l := by
  induction h with
  | mk vb vl he hb hbk hl hlk ih1 ih2 => exact .mk vb vl (he.mono k) (hb.mono k) ih1 (hl.mono k) ih2
theorem SmV.len {w : World} {S : Nat → Prop} {s : Sm} {l : List Value} (h : SmV w S s l) : l.length = 7 := by cases h; rfl
theorem SmV.one {w : World} {S : Nat → Prop} {s : Sm} {l : List Value} (h : SmV w S s l) : allOne l = true := by cases h; rfl
def SmRow (w : World) (S : Nat → Prop) (oa : Option Addr) (ss : List Sm) : Prop := ∃ vs, RowC w S 7 oa ss.length vs ∧ ∀ j x, ss[j]? = some x → SmV w S x (vs j)
theorem SmRow.kept {w w' : World} {S : Nat → Prop} {oa : Option Addr} {es : List Sm} (h : SmRow w S oa es) (k : Same S w w') : SmRow w' S oa es := by
  obtain ⟨vs, h1, h2⟩ := h
  exact ⟨vs, h1.kept k, fun j x hx => (h2 j x hx).kept k⟩
theorem SmRow.mono {w : World} {S S' : Nat → Prop} {oa : Option Addr} {es : List Sm} (h : SmRow w S oa es) (k : ∀ b, S b → S' b) : SmRow w S' oa es := by
  obtain ⟨vs, h1, h2⟩ := h
  exact ⟨vs, h1.mono k, fun j x hx => (h2 j x hx).mono k⟩
/-- declarations -/
def dcL (d : Dc) : List Value := [str d.nm, .int .i64 d.wd, .int .i64 d.a]
def DcRow (w : World) (S : Nat → Prop) (oa : Option Addr) (ds : List Dc) : Prop := RowC w S 3 oa ds.length (fun j => dcL (ds.getD j dc0))
/-- threads -/
def ThV (w : World) (S : Nat → Prop) (t : Th) (l : List Value) : Prop := ∃ ol cl ob cb, l = [str t.nm, .slice ol t.locals.length cl, .slice ob t.body.length cb, .int .i64 t.a] ∧ DcRow w S ol t.locals ∧ SmRow w S ob t.body
theorem ThV.kept {w w' : World} {S : Nat → Prop} {t : Th} {l : List Value} (h : ThV w S t l) (k : Same S w w') : ThV w' S t l := by
  obtain ⟨ol, cl, ob, cb, h1, h2, h3⟩ := h
  exact ⟨ol, cl, ob, cb, h1, RowC.kept h2 k, h3.kept k⟩
theorem ThV.mono {w : World} {S S' : Nat → Prop} {t : Th} {l : List Value} (h : ThV w S t l) (k : ∀ b, S b → S' b) : ThV w S' t l := by
  obtain ⟨ol, cl, ob, cb, h1, h2, h3⟩ := h
  exact ⟨ol, cl, ob, cb, h1, RowC.mono h2 k, h3.mono k⟩
theorem ThV.one {w : World} {S : Nat → Prop} {t : Th} {l : List Value} (h : ThV w S t l) : allOne l = true := by obtain ⟨ol, cl, ob, cb, rfl, _⟩ := h; rfl
def ThRow (w : World) (S : Nat → Prop) (oa : Option Addr) (ts : List Th) : Prop := ∃ vs, RowC w S 4 oa ts.length vs ∧ ∀ j x, ts[j]? = some x → ThV w S x (vs j)
theorem ThRow.kept {w w' : World} {S : Nat → Prop} {oa : Option Addr} {es : List Th} (h : ThRow w S oa es) (k : Same S w w') : ThRow w' S oa es := by
  obtain ⟨vs, h1, h2⟩ := h
  exact ⟨vs, h1.kept k, fun j x hx => (h2 j x hx).kept k⟩
theorem ThRow.mono {w : World} {S S' : Nat → Prop} {oa : Option Addr} {es : List Th} (h : ThRow w S oa es) (k : ∀ b, S b → S' b) : ThRow w S' oa es := by
  obtain ⟨vs, h1, h2⟩ := h
  exact ⟨vs, h1.mono k, fun j x hx => (h2 j x hx).mono k⟩
/-- a program's cells -/
def PgV (w : World) (S : Nat → Prop) (p : Pg) (l : List Value) : Prop := ∃ os cs ol cl ot ct, l = [.slice os p.shared.length cs, .slice ol p.locks.length cl, .slice ot p.threads.length ct] ∧ DcRow w S os p.shared ∧ DcRow w S ol p.locks ∧ ThRow w S ot p.threads
theorem PgV.kept {w w' : World} {S : Nat → Prop} {p : Pg} {l : List Value} (h : PgV w S p l) (k : Same S w w') : PgV w' S p l := by
  obtain ⟨os, cs, ol, cl, ot, ct, h1, h2, h3, h4⟩ := h
  exact ⟨os, cs, ol, cl, ot, ct, h1, RowC.kept h2 k, RowC.kept h3 k, h4.kept k⟩
theorem PgV.mono {w : World} {S S' : Nat → Prop} {p : Pg} {l : List Value} (h : PgV w S p l) (k : ∀ b, S b → S' b) : PgV w S' p l := by
  obtain ⟨os, cs, ol, cl, ot, ct, h1, h2, h3, h4⟩ := h
  exact ⟨os, cs, ol, cl, ot, ct, h1, RowC.mono h2 k, RowC.mono h3 k, h4.mono k⟩
end Sx


/- When a tree may be written, and its text: no program in sight. -/
namespace LexS
open Sx
set_option linter.unusedVariables false
set_option linter.unusedSimpArgs false
/-! ## when a tree may be written, and its text -/
/-- does a kid of a binary expression stand in parentheses? -/
def inn (op : Int) (x : Ex) (second : Bool) : Bool := decide (x.k = 4) && (decide (lvlO x.op < lvlO op) || second && decide (lvlO x.op = lvlO op))
def rightE : Ex → Nat → Bool
  | .mk k op wd nm kids a, d => decide (d ≤ 64) && (
    if k = 1 then decide (0 ≤ wd ∧ op = 0 ∧ nm = [] ∧ kids.length = 0)
    else if k = 2 then isName nm && decide (op = 0 ∧ wd = 0 ∧ kids.length = 0)
    else if k = 3 then oneOp op && decide (wd = 0 ∧ nm = []) && (match kids with | [x] => rightE x (if x.k = 4 then d + 2 else d + 1) | _ => false)
    else if k = 4 then twoOp op && decide (wd = 0 ∧ nm = []) && (match kids with | [x, y] => rightE x (if inn op x false = true then d + 1 else d) && rightE y (if inn op y true = true then d + 1 else d) | _ => false)
    else false)
def par (b : Bool) (l : List UInt8) : List UInt8 := if b = true then [40] ++ l ++ [41] else l
def txtE : Ex → List UInt8
  | .mk k op wd nm kids a => if k = 1 then shw wd else if k = 2 then nm else if k = 3 then shwO op ++ (match kids with | [x] => par (decide (x.k = 4)) (txtE x) | _ => [])
    else (match kids with | [x, y] => par (inn op x false) (txtE x) ++ ([32] ++ shwO op ++ [32]) ++ par (inn op y true) (txtE y) | _ => [])
def mar (d : Nat) : List UInt8 := List.replicate (2 * d) 32
def hasN (k : Int) : Bool := decide (k = 1 ∨ k = 2 ∨ k = 5)
def hasE (k : Int) : Bool := decide (k = 1 ∨ k = 2 ∨ k = 3 ∨ k = 4 ∨ k = 6)
def hasB (k : Int) : Bool := decide (k = 3 ∨ k = 4 ∨ k = 5)
def nmOk (b : Bool) (l : List UInt8) : Bool := if b = true then isName l else decide (l = [])
def rightX (b : Bool) (e : List Ex) : Bool := if b = true then (match e with | [x] => rightE x 0 | _ => false) else decide (e.length = 0)
mutual
def rightS : Sm → Nat → Bool
  | .mk k nm other e body els a, d => decide (1 ≤ k ∧ k ≤ 7) && nmOk (hasN k) nm && nmOk (decide (k = 2)) other && rightX (hasE k) e && (hasB k || decide (body.length = 0)) && (decide (k = 3) || decide (els.length = 0)) &&
    (!(hasB k || decide (0 < els.length)) || decide (d < 64)) && rightSs body (d + 1) && rightSs els (d + 1)
termination_by structural s => s
def rightSs : List Sm → Nat → Bool
  | [], _ => true
  | s :: r, d => rightS s d && rightSs r d
termination_by structural l => l
end
def txX (e : List Ex) : List UInt8 := match e with | x :: _ => txtE x | [] => []
mutual
def txtS : Sm → Nat → List UInt8
  | .mk k nm other e body els a, d =>
    if k = 1 then mar d ++ (nm ++ [32, 61, 32] ++ txX e ++ [59, 10])
    else if k = 2 then mar d ++ (nm ++ [32, 61, 32, 115, 119, 97, 112, 40] ++ other ++ [44, 32] ++ txX e ++ [41, 59, 10])
    else if k = 6 then mar d ++ ([112, 114, 105, 110, 116, 32] ++ txX e ++ [59, 10])
    else if k = 7 then mar d ++ [115, 107, 105, 112, 59, 10]
    else if k = 5 then mar d ++ ([108, 111, 99, 107, 32] ++ nm ++ [32, 123, 10]) ++ txtSs body (d + 1) ++ mar d ++ [125, 10]
    else mar d ++ ((if k = 4 then [119, 104, 105, 108, 101, 32, 40] else [105, 102, 32, 40]) ++ txX e ++ [41, 32, 123, 10]) ++ txtSs body (d + 1) ++ (if 0 < els.length then mar d ++ [125, 32, 101, 108, 115, 101, 32, 123, 10] ++ txtSs els (d + 1) else []) ++ mar d ++ [125, 10]
termination_by structural s => s
def txtSs : List Sm → Nat → List UInt8
  | [], _ => []
  | s :: r, d => txtS s d ++ txtSs r d
termination_by structural l => l
end
def dcOk (shared : Bool) (x : Dc) : Bool := isName x.nm && (if shared = true then decide (x.wd ≠ -9223372036854775808) else decide (x.wd = 0))
def thOk (t : Th) : Bool := isName t.nm && t.locals.all (dcOk false) && rightSs t.body 1
def pgOk (p : Pg) : Bool := p.shared.all (dcOk true) && p.locks.all (dcOk false) && p.threads.all thOk
def dcT (x : Dc) : List UInt8 := x.nm ++ (if x.wd = 0 then [] else [32, 61, 32] ++ shw x.wd)
/-- ', ' between -/
def joinC : List (List UInt8) → List UInt8
  | [] => []
  | [x] => x
  | x :: y :: r => x ++ [44, 32] ++ joinC (y :: r)
def dcsT (word : List UInt8) (d : Nat) (l : List Dc) : List UInt8 := if l.length = 0 then [] else mar d ++ (word ++ [32] ++ joinC (l.map dcT) ++ [59, 10])
def thT (t : Th) : List UInt8 := ([116, 104, 114, 101, 97, 100, 32] ++ t.nm ++ [32, 123, 10]) ++ dcsT [108, 111, 99, 97, 108] 1 t.locals ++ txtSs t.body 1 ++ [125, 10]
def pgT (p : Pg) : List UInt8 := dcsT [115, 104, 97, 114, 101, 100] 0 p.shared ++ dcsT [108, 111, 99, 107] 0 p.locks ++ (p.threads.map thT).flatten
def pgRes (p : Pg) : List UInt8 × Nat := if pgOk p = true then (if (pgT p).length ≤ 65536 then (pgT p, 0) else ([], 4)) else ([], 40)
end LexS

