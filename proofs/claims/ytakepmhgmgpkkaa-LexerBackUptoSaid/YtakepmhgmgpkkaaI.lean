/- A part of the proof: contracts of functions and plain laws; each theorem says its own conditions. -/
import Derived.Test.YtakepmhgmgpkkaaH
import Derived.Test.YtakepmhgmgpkkaaSxMore
namespace Go.Proofs.Ytakepmhgmgpkkaa
open Go.RowKit Sx LexS
set_option linter.unusedVariables false
set_option linter.unusedSimpArgs false
theorem isName_eq {l : List UInt8} (h0 : l ≠ []) (h1 : l.length ≤ 32) (h2 : isDigit (l.getD 0 0) = false) (h3 : isWord l = false) : isName l = l.all isIdent := by
  match l, h0 with
  | c :: r, _ => simp at h2 h1; simp [isName, h2, h3, h1]
theorem isName_nil {l : List UInt8} (h : l = []) : isName l = false := by subst h; rfl
theorem isName_long {l : List UInt8} (h : 32 < l.length) : isName l = false := by
  match l, h with
  | c :: r, h => simp only [isName]; rw [show decide ((c :: r).length ≤ 32) = false from by simp only [decide_eq_false_iff_not]; omega]; simp
theorem isName_digit {l : List UInt8} (h : isDigit (l.getD 0 0) = true) : isName l = false := by
  match l with
  | [] => rfl
  | c :: r => simp at h; simp [isName, h]
theorem isName_word {l : List UInt8} (h : isWord l = true) : isName l = false := by
  match l with
  | [] => rfl
  | c :: r => simp [isName, h]
theorem all_take_succ {p : UInt8 → Bool} {l : List UInt8} {m : Nat} (hm : m < l.length) (h : (l.take m).all p = true) (hp : p (l.getD m 0) = true) : (l.take (m + 1)).all p = true := by
  rw [List.take_add_one]
  have : l[m]? = some (l.getD m 0) := by simp [List.getD, hm]
  rw [this]
  simp only [List.all_append, h, Option.toList_some, List.all_cons, hp, List.all_nil, Bool.and_self]
theorem all_no {p : UInt8 → Bool} {l : List UInt8} {m : Nat} (hm : m < l.length) (hp : p (l.getD m 0) = false) : l.all p = false := by
  rw [List.all_eq_false]
  refine ⟨l.getD m 0, ?_, by rw [hp]; simp⟩
  rw [show l.getD m 0 = l[m] from by simp [List.getD, hm]]
  exact List.getElem_mem hm
theorem isSign_ref {l : List UInt8} : isSign l = decide (l = [40] ∨ l = [41] ∨ l = [123] ∨ l = [125] ∨ l = [44] ∨ l = [59] ∨ l = [61] ∨ l = [43] ∨ l = [45] ∨ l = [42] ∨ l = [47] ∨ l = [37] ∨ l = [38] ∨ l = [124] ∨ l = [94] ∨ l = [33] ∨ l = [60] ∨ l = [62] ∨
    l = [61, 61] ∨ l = [33, 61] ∨ l = [60, 61] ∨ l = [62, 61] ∨ l = [60, 60] ∨ l = [62, 62]) := by
  match l with
  | [] => rfl
  | [c] => 
    have h2 : isSign2 [c] = false := by simp [isSign2]
    rw [Bool.eq_iff_iff]
    simp [isSign, h2, isSign1, signs1]
  | a :: b :: r =>
    have h1 : isSign1 (a :: b :: r) = false := rfl
    simp only [isSign, h1, Bool.or_false, isSign2]
    congr 1
    simp

set_option maxHeartbeats 1000000 in
theorem name_any (l : List UInt8) (w : World) : Ret Try.prog 14 [str l] w fun v w' => v = .bool (isName l) ∧ w' = w := by
  refine ret_of [_] Try.func14 rfl Try.ntmps14 rfl ?_
  have st := St.init w []
  refine vc_seq ?_
  refine vc_region ?_
  refine vc_y rfl rfl (y_as rfl) ?_
  refine vc_end ?_
  refine vq_then ?_
  refine vc_keep [(0, _)] ⟨rfl, trivial⟩ ?_
  refine vc_seq ?_
  refine vc_seq ?_
  refine vc_region ?_
  refine vc_y rfl rfl (y_mv rfl) ?_
  refine vc_y rfl rfl (y_eqs rfl rfl) ?_
  refine vc_e (e_mvb rfl rfl rfl ?_ ?_)
  · intro hg6
    try simp only [decide_eq_true_eq, decide_eq_false_iff_not, Bool.not_eq_true', Bool.not_eq_false', Bool.not_eq_true, Bool.not_eq_false, Int.not_lt, Int.not_le, Nat.not_lt, Nat.not_le, Bool.not_true, Bool.not_false, Bool.true_eq_false, Bool.false_eq_true] at hg6
    refine vc_e (e_skip rfl rfl ?_)
    refine vc_e (e_skip rfl rfl ?_)
    refine vc_e (e_skip rfl rfl ?_)
    refine vc_y rfl rfl (y_pickt rfl rfl) ?_
    refine vc_y rfl rfl (y_mv rfl) ?_
    refine vc_e (e_skip rfl rfl ?_)
    refine vc_e (e_skip rfl rfl ?_)
    refine vc_e (e_skip rfl rfl ?_)
    refine vc_y rfl rfl (y_pickt rfl rfl) ?_
    refine vc_y rfl rfl (y_mv rfl) ?_
    refine vc_e (e_skip rfl rfl ?_)
    refine vc_e (e_skip rfl rfl ?_)
    refine vc_y rfl rfl (y_pickt rfl rfl) ?_
    refine vc_end ?_
    refine vq_then ?_
    refine vc_keep [(0, _), (19, _)] ⟨rfl, rfl, trivial⟩ ?_
    refine vc_ift rfl ?_
    refine vc_seq ?_
    refine vc_region ?_
    refine vc_y rfl rfl (y_as rfl) ?_
    refine vc_end ?_
    refine vq_then ?_
    refine vc_keep [(2, _)] ⟨rfl, trivial⟩ ?_
    refine vc_ret ?_
    refine vq_then_ret ?_
    refine vq_ret1 st (.inl rfl) Try.results14 (.tmp rfl) ?_
    refine ⟨_, rfl, ?_⟩
    refine ⟨?_, rfl⟩
    rw [Value.bool.injEq]
    first
    | (symm; apply isName_nil; first | assumption | (apply List.eq_nil_of_length_eq_zero; omega))
    | (symm; apply isName_long; omega)
    | (symm; apply isName_digit; assumption)
    | (symm; apply isName_word; assumption)
    | (symm; rw [isName_eq (by first | assumption | (intro h; subst h; simp at *)) (by omega) (by assumption) (by assumption)]; exact all_no (m := m) (by omega) (by simp only [isIdent, *, Bool.or_true, Bool.true_or, Bool.or_self]))
    | (symm; rw [isName_eq (by first | assumption | (intro h; subst h; simp at *)) (by omega) (by assumption) (by assumption)]; rw [List.take_of_length_le (by omega)] at hall; exact hall)
  · intro hg6
    try simp only [decide_eq_true_eq, decide_eq_false_iff_not, Bool.not_eq_true', Bool.not_eq_false', Bool.not_eq_true, Bool.not_eq_false, Int.not_lt, Int.not_le, Nat.not_lt, Nat.not_le, Bool.not_true, Bool.not_false, Bool.true_eq_false, Bool.false_eq_true] at hg6
    refine vc_y rfl rfl (y_mv rfl) ?_
    refine vc_y rfl rfl (y_lens rfl Try.underlying9) ?_
    refine vc_y rfl rfl (y_gtr rfl rfl) ?_
    refine vc_y rfl rfl (y_pickf rfl rfl) ?_
    refine vc_e (e_mvb rfl rfl rfl ?_ ?_)
    · intro hg11
      try simp only [decide_eq_true_eq, decide_eq_false_iff_not, Bool.not_eq_true', Bool.not_eq_false', Bool.not_eq_true, Bool.not_eq_false, Int.not_lt, Int.not_le, Nat.not_lt, Nat.not_le, Bool.not_true, Bool.not_false, Bool.true_eq_false, Bool.false_eq_true] at hg11
      refine vc_e (e_skip rfl rfl ?_)
      refine vc_e (e_skip rfl rfl ?_)
      refine vc_e (e_skip rfl rfl ?_)
      refine vc_y rfl rfl (y_pickt rfl rfl) ?_
      refine vc_y rfl rfl (y_mv rfl) ?_
      refine vc_e (e_skip rfl rfl ?_)
      refine vc_e (e_skip rfl rfl ?_)
      refine vc_y rfl rfl (y_pickt rfl rfl) ?_
      refine vc_end ?_
      refine vq_then ?_
      refine vc_keep [(0, _), (19, _)] ⟨rfl, rfl, trivial⟩ ?_
      refine vc_ift rfl ?_
      refine vc_seq ?_
      refine vc_region ?_
      refine vc_y rfl rfl (y_as rfl) ?_
      refine vc_end ?_
      refine vq_then ?_
      refine vc_keep [(2, _)] ⟨rfl, trivial⟩ ?_
      refine vc_ret ?_
      refine vq_then_ret ?_
      refine vq_ret1 st (.inl rfl) Try.results14 (.tmp rfl) ?_
      refine ⟨_, rfl, ?_⟩
      refine ⟨?_, rfl⟩
      rw [Value.bool.injEq]
      first
      | (symm; apply isName_nil; first | assumption | (apply List.eq_nil_of_length_eq_zero; omega))
      | (symm; apply isName_long; omega)
      | (symm; apply isName_digit; assumption)
      | (symm; apply isName_word; assumption)
      | (symm; rw [isName_eq (by first | assumption | (intro h; subst h; simp at *)) (by omega) (by assumption) (by assumption)]; exact all_no (m := m) (by omega) (by simp only [isIdent, *, Bool.or_true, Bool.true_or, Bool.or_self]))
      | (symm; rw [isName_eq (by first | assumption | (intro h; subst h; simp at *)) (by omega) (by assumption) (by assumption)]; rw [List.take_of_length_le (by omega)] at hall; exact hall)
    · intro hg11
      try simp only [decide_eq_true_eq, decide_eq_false_iff_not, Bool.not_eq_true', Bool.not_eq_false', Bool.not_eq_true, Bool.not_eq_false, Int.not_lt, Int.not_le, Nat.not_lt, Nat.not_le, Bool.not_true, Bool.not_false, Bool.true_eq_false, Bool.false_eq_true] at hg11
      refine vc_y rfl rfl (y_mv rfl) ?_
      refine vc_y rfl rfl (y_ixs (k := 0) rfl rfl Try.underlying9 rfl (by (rcases l with _ | ⟨_, _⟩ <;> simp at * ))) ?_
      refine vc_e (e_call [_] rfl rfl Try.call30 rfl (digit_any _ _) ?_)
      rintro _ w ⟨rfl, rfl⟩
      refine vc_y rfl rfl (y_pickf rfl rfl) ?_
      refine vc_e (e_mvb rfl rfl rfl ?_ ?_)
      · intro hg16
        try simp only [decide_eq_true_eq, decide_eq_false_iff_not, Bool.not_eq_true', Bool.not_eq_false', Bool.not_eq_true, Bool.not_eq_false, Int.not_lt, Int.not_le, Nat.not_lt, Nat.not_le, Bool.not_true, Bool.not_false, Bool.true_eq_false, Bool.false_eq_true] at hg16
        refine vc_e (e_skip rfl rfl ?_)
        refine vc_e (e_skip rfl rfl ?_)
        refine vc_y rfl rfl (y_pickt rfl rfl) ?_
        refine vc_end ?_
        refine vq_then ?_
        refine vc_keep [(0, _), (19, _)] ⟨rfl, rfl, trivial⟩ ?_
        refine vc_ift rfl ?_
        refine vc_seq ?_
        refine vc_region ?_
        refine vc_y rfl rfl (y_as rfl) ?_
        refine vc_end ?_
        refine vq_then ?_
        refine vc_keep [(2, _)] ⟨rfl, trivial⟩ ?_
        refine vc_ret ?_
        refine vq_then_ret ?_
        refine vq_ret1 st (.inl rfl) Try.results14 (.tmp rfl) ?_
        refine ⟨_, rfl, ?_⟩
        refine ⟨?_, rfl⟩
        rw [Value.bool.injEq]
        first
        | (symm; apply isName_nil; first | assumption | (apply List.eq_nil_of_length_eq_zero; omega))
        | (symm; apply isName_long; omega)
        | (symm; apply isName_digit; assumption)
        | (symm; apply isName_word; assumption)
        | (symm; rw [isName_eq (by first | assumption | (intro h; subst h; simp at *)) (by omega) (by assumption) (by assumption)]; exact all_no (m := m) (by omega) (by simp only [isIdent, *, Bool.or_true, Bool.true_or, Bool.or_self]))
        | (symm; rw [isName_eq (by first | assumption | (intro h; subst h; simp at *)) (by omega) (by assumption) (by assumption)]; rw [List.take_of_length_le (by omega)] at hall; exact hall)
      · intro hg16
        try simp only [decide_eq_true_eq, decide_eq_false_iff_not, Bool.not_eq_true', Bool.not_eq_false', Bool.not_eq_true, Bool.not_eq_false, Int.not_lt, Int.not_le, Nat.not_lt, Nat.not_le, Bool.not_true, Bool.not_false, Bool.true_eq_false, Bool.false_eq_true] at hg16
        refine vc_y rfl rfl (y_mv rfl) ?_
        refine vc_e (e_call [_] rfl rfl Try.call16 rfl (word_any _ _) ?_)
        rintro _ w ⟨rfl, rfl⟩
        refine vc_y rfl rfl (y_pickf rfl rfl) ?_
        refine vc_end ?_
        refine vq_then ?_
        refine vc_keep [(0, _), (19, _)] ⟨rfl, rfl, trivial⟩ ?_
        refine vc_ifs rfl ?_ ?_
        · intro hc19
          try simp only [decide_eq_true_eq, decide_eq_false_iff_not, Bool.not_eq_true', Bool.not_eq_false', Bool.not_eq_true, Bool.not_eq_false, Int.not_lt, Int.not_le, Nat.not_lt, Nat.not_le, Bool.not_true, Bool.not_false, Bool.true_eq_false, Bool.false_eq_true] at hc19
          refine vc_seq ?_
          refine vc_region ?_
          refine vc_y rfl rfl (y_as rfl) ?_
          refine vc_end ?_
          refine vq_then ?_
          refine vc_keep [(2, _)] ⟨rfl, trivial⟩ ?_
          refine vc_ret ?_
          refine vq_then_ret ?_
          refine vq_ret1 st (.inl rfl) Try.results14 (.tmp rfl) ?_
          refine ⟨_, rfl, ?_⟩
          refine ⟨?_, rfl⟩
          rw [Value.bool.injEq]
          first
          | (symm; apply isName_nil; first | assumption | (apply List.eq_nil_of_length_eq_zero; omega))
          | (symm; apply isName_long; omega)
          | (symm; apply isName_digit; assumption)
          | (symm; apply isName_word; assumption)
          | (symm; rw [isName_eq (by first | assumption | (intro h; subst h; simp at *)) (by omega) (by assumption) (by assumption)]; exact all_no (m := m) (by omega) (by simp only [isIdent, *, Bool.or_true, Bool.true_or, Bool.or_self]))
          | (symm; rw [isName_eq (by first | assumption | (intro h; subst h; simp at *)) (by omega) (by assumption) (by assumption)]; rw [List.take_of_length_le (by omega)] at hall; exact hall)
        · intro hc19
          try simp only [decide_eq_true_eq, decide_eq_false_iff_not, Bool.not_eq_true', Bool.not_eq_false', Bool.not_eq_true, Bool.not_eq_false, Int.not_lt, Int.not_le, Nat.not_lt, Nat.not_le, Bool.not_true, Bool.not_false, Bool.true_eq_false, Bool.false_eq_true] at hc19
          refine vc_code_skip ?_
          refine vq_then ?_
          refine vc_keep [(0, _)] ⟨rfl, trivial⟩ ?_
          refine vc_seq ?_
          refine vc_seq ?_
          refine vc_region ?_
          refine vc_y rfl rfl (y_mv rfl) ?_
          refine vc_y rfl rfl (y_lens rfl Try.underlying9) ?_
          refine vc_y rfl rfl (y_mv rfl) ?_
          refine vc_end ?_
          refine vq_then ?_
          refine vc_keep [(0, _), (21, _), (22, _)] ⟨rfl, rfl, rfl, trivial⟩ ?_
          refine vc_block ?_
          refine vc_loop (w0 := _) (M := _) (fun (m : Nat) => [(0, str l), (21, .int .i64 (l.length : Int)), (22, .int .i64 (m : Int))]) (fun _ => []) (fun m w' => m ≤ l.length ∧ (l.take m).all isIdent = true ∧ w' = w) (fun m => l.length - m) 0 ⟨rfl, rfl, rfl, trivial⟩ st ⟨by omega, by simp, rfl⟩ ?_
          rintro m w' ⟨hm, hall, rfl⟩ st
          refine vc_seq ?_
          refine vc_region ?_
          refine vc_y rfl rfl (y_lss rfl rfl) ?_
          refine vc_end ?_
          refine vq_then ?_
          refine vc_keep [(0, _), (21, _), (22, _), (23, _)] ⟨rfl, rfl, rfl, rfl, trivial⟩ ?_
          refine vc_seq ?_
          refine vc_ifs rfl ?_ ?_
          · intro hc23
            try simp only [decide_eq_true_eq, decide_eq_false_iff_not, Bool.not_eq_true', Bool.not_eq_false', Bool.not_eq_true, Bool.not_eq_false, Int.not_lt, Int.not_le, Nat.not_lt, Nat.not_le, Bool.not_true, Bool.not_false, Bool.true_eq_false, Bool.false_eq_true] at hc23
            refine vc_code_skip ?_
            refine vq_then ?_
            refine vc_keep [(0, _), (21, _), (22, _)] ⟨rfl, rfl, rfl, trivial⟩ ?_
            refine vc_seq ?_
            refine vc_block ?_
            refine vc_seq ?_
            refine vc_region ?_
            refine vc_y rfl rfl (y_mv rfl) ?_
            refine vc_y rfl rfl (y_as rfl) ?_
            refine vc_end ?_
            refine vq_then ?_
            refine vc_keep [(0, _), (3, _), (21, _), (22, _)] ⟨rfl, rfl, rfl, rfl, trivial⟩ ?_
            refine vc_seq ?_
            refine vc_region ?_
            refine vc_y rfl rfl (y_mv rfl) ?_
            refine vc_y rfl rfl (y_mv rfl) ?_
            refine vc_y rfl rfl (y_ixs (k := _) rfl rfl Try.underlying9 rfl (by omega)) ?_
            refine vc_e (e_call [_] rfl rfl Try.call31 rfl (letter_any _ _) ?_)
            rintro _ w ⟨rfl, rfl⟩
            refine vc_y rfl rfl (y_not rfl) ?_
            refine vc_e (e_mvb rfl rfl rfl ?_ ?_)
            · intro hg30
              try simp only [decide_eq_true_eq, decide_eq_false_iff_not, Bool.not_eq_true', Bool.not_eq_false', Bool.not_eq_true, Bool.not_eq_false, Int.not_lt, Int.not_le, Nat.not_lt, Nat.not_le, Bool.not_true, Bool.not_false, Bool.true_eq_false, Bool.false_eq_true] at hg30
              refine vc_y rfl rfl (y_mv rfl) ?_
              refine vc_y rfl rfl (y_mv rfl) ?_
              refine vc_y rfl rfl (y_ixs (k := _) rfl rfl Try.underlying9 rfl (by omega)) ?_
              refine vc_e (e_call [_] rfl rfl Try.call30 rfl (digit_any _ _) ?_)
              rintro _ w ⟨rfl, rfl⟩
              refine vc_y rfl rfl (y_not rfl) ?_
              refine vc_y rfl rfl (y_pickt rfl rfl) ?_
              refine vc_end ?_
              refine vq_then ?_
              refine vc_keep [(0, _), (21, _), (22, _), (36, _)] ⟨rfl, rfl, rfl, rfl, trivial⟩ ?_
              refine vc_ifs rfl ?_ ?_
              · intro hc36
                try simp only [decide_eq_true_eq, decide_eq_false_iff_not, Bool.not_eq_true', Bool.not_eq_false', Bool.not_eq_true, Bool.not_eq_false, Int.not_lt, Int.not_le, Nat.not_lt, Nat.not_le, Bool.not_true, Bool.not_false, Bool.true_eq_false, Bool.false_eq_true] at hc36
                refine vc_seq ?_
                refine vc_region ?_
                refine vc_y rfl rfl (y_as rfl) ?_
                refine vc_end ?_
                refine vq_then ?_
                refine vc_keep [(2, _)] ⟨rfl, trivial⟩ ?_
                refine vc_ret ?_
                refine vq_block_ret ?_
                refine vq_then_ret ?_
                refine vq_then_ret ?_
                refine vq_block_ret ?_
                refine vq_then_ret ?_
                refine vq_ret1 st (.inl rfl) Try.results14 (.tmp rfl) ?_
                refine ⟨_, rfl, ?_⟩
                refine ⟨?_, rfl⟩
                rw [Value.bool.injEq]
                first
                | (symm; apply isName_nil; first | assumption | (apply List.eq_nil_of_length_eq_zero; omega))
                | (symm; apply isName_long; omega)
                | (symm; apply isName_digit; assumption)
                | (symm; apply isName_word; assumption)
                | (symm; rw [isName_eq (by first | assumption | (intro h; subst h; simp at *)) (by omega) (by assumption) (by assumption)]; exact all_no (m := m) (by omega) (by simp only [isIdent, *, Bool.or_true, Bool.true_or, Bool.or_self]))
                | (symm; rw [isName_eq (by first | assumption | (intro h; subst h; simp at *)) (by omega) (by assumption) (by assumption)]; rw [List.take_of_length_le (by omega)] at hall; exact hall)
              · intro hc36
                try simp only [decide_eq_true_eq, decide_eq_false_iff_not, Bool.not_eq_true', Bool.not_eq_false', Bool.not_eq_true, Bool.not_eq_false, Int.not_lt, Int.not_le, Nat.not_lt, Nat.not_le, Bool.not_true, Bool.not_false, Bool.true_eq_false, Bool.false_eq_true] at hc36
                refine vc_code_skip ?_
                refine vq_block ?_
                refine vq_then ?_
                refine vc_keep [(0, _), (21, _), (22, _)] ⟨rfl, rfl, rfl, trivial⟩ ?_
                refine vc_region ?_
                refine vc_y rfl rfl (y_add rfl rfl rfl (by omega) (by omega)) ?_
                refine vc_y rfl rfl (y_mv rfl) ?_
                refine vc_end ?_
                refine vq_again (m + 1) ⟨rfl, rfl, rfl, trivial⟩ st ?_ ?_
                · exact ⟨by omega, all_take_succ (by omega) hall (by simp only [isIdent, *, Bool.or_true, Bool.true_or, Bool.or_self]), rfl⟩
                · omega
            · intro hg30
              try simp only [decide_eq_true_eq, decide_eq_false_iff_not, Bool.not_eq_true', Bool.not_eq_false', Bool.not_eq_true, Bool.not_eq_false, Int.not_lt, Int.not_le, Nat.not_lt, Nat.not_le, Bool.not_true, Bool.not_false, Bool.true_eq_false, Bool.false_eq_true] at hg30
              refine vc_e (e_skip rfl rfl ?_)
              refine vc_e (e_skip rfl rfl ?_)
              refine vc_e (e_skip rfl rfl ?_)
              refine vc_e (e_skip rfl rfl ?_)
              refine vc_e (e_skip rfl rfl ?_)
              refine vc_y rfl rfl (y_pickf rfl rfl) ?_
              refine vc_end ?_
              refine vq_then ?_
              refine vc_keep [(0, _), (21, _), (22, _), (36, _)] ⟨rfl, rfl, rfl, rfl, trivial⟩ ?_
              refine vc_iff rfl ?_
              refine vc_code_skip ?_
              refine vq_block ?_
              refine vq_then ?_
              refine vc_keep [(0, _), (21, _), (22, _)] ⟨rfl, rfl, rfl, trivial⟩ ?_
              refine vc_region ?_
              refine vc_y rfl rfl (y_add rfl rfl rfl (by omega) (by omega)) ?_
              refine vc_y rfl rfl (y_mv rfl) ?_
              refine vc_end ?_
              refine vq_again (m + 1) ⟨rfl, rfl, rfl, trivial⟩ st ?_ ?_
              · exact ⟨by omega, all_take_succ (by omega) hall (by simp only [isIdent, *, Bool.or_true, Bool.true_or, Bool.or_self]), rfl⟩
              · omega
          · intro hc23
            try simp only [decide_eq_true_eq, decide_eq_false_iff_not, Bool.not_eq_true', Bool.not_eq_false', Bool.not_eq_true, Bool.not_eq_false, Int.not_lt, Int.not_le, Nat.not_lt, Nat.not_le, Bool.not_true, Bool.not_false, Bool.true_eq_false, Bool.false_eq_true] at hc23
            refine vc_exit ?_
            refine vq_then_exit ?_
            refine vq_then_exit ?_
            refine vq_block_exit ?_
            refine vq_then ?_
            refine vc_keep [] trivial ?_
            refine vc_seq ?_
            refine vc_region ?_
            refine vc_y rfl rfl (y_as rfl) ?_
            refine vc_end ?_
            refine vq_then ?_
            refine vc_keep [(2, _)] ⟨rfl, trivial⟩ ?_
            refine vc_ret ?_
            refine vq_ret1 st (.inl rfl) Try.results14 (.tmp rfl) ?_
            refine ⟨_, rfl, ?_⟩
            refine ⟨?_, rfl⟩
            rw [Value.bool.injEq]
            first
            | (symm; apply isName_nil; first | assumption | (apply List.eq_nil_of_length_eq_zero; omega))
            | (symm; apply isName_long; omega)
            | (symm; apply isName_digit; assumption)
            | (symm; apply isName_word; assumption)
            | (symm; rw [isName_eq (by first | assumption | (intro h; subst h; simp at *)) (by omega) (by assumption) (by assumption)]; exact all_no (m := m) (by omega) (by simp only [isIdent, *, Bool.or_true, Bool.true_or, Bool.or_self]))
            | (symm; rw [isName_eq (by first | assumption | (intro h; subst h; simp at *)) (by omega) (by assumption) (by assumption)]; rw [List.take_of_length_le (by omega)] at hall; exact hall)

set_option maxHeartbeats 1000000 in
theorem rname_any (l : List UInt8) (w : World) : Ret Try.prog 15 [str l] w fun v w' => v = .bool (isName l) ∧ w' = w := by
  refine ret_of [_] Try.func15 rfl Try.ntmps15 rfl ?_
  have st := St.init w []
  refine vc_seq ?_
  refine vc_region ?_
  refine vc_y rfl rfl (y_as rfl) ?_
  refine vc_end ?_
  refine vq_then ?_
  refine vc_keep [(0, _)] ⟨rfl, trivial⟩ ?_
  refine vc_seq ?_
  refine vc_seq ?_
  refine vc_region ?_
  refine vc_y rfl rfl (y_mv rfl) ?_
  refine vc_y rfl rfl (y_lens rfl Try.underlying9) ?_
  refine vc_y rfl rfl (y_lss rfl rfl) ?_
  refine vc_e (e_mvb rfl rfl rfl ?_ ?_)
  · intro hg7
    try simp only [decide_eq_true_eq, decide_eq_false_iff_not, Bool.not_eq_true', Bool.not_eq_false', Bool.not_eq_true, Bool.not_eq_false, Int.not_lt, Int.not_le, Nat.not_lt, Nat.not_le, Bool.not_true, Bool.not_false, Bool.true_eq_false, Bool.false_eq_true] at hg7
    refine vc_e (e_skip rfl rfl ?_)
    refine vc_e (e_skip rfl rfl ?_)
    refine vc_e (e_skip rfl rfl ?_)
    refine vc_y rfl rfl (y_pickt rfl rfl) ?_
    refine vc_y rfl rfl (y_mv rfl) ?_
    refine vc_e (e_skip rfl rfl ?_)
    refine vc_e (e_skip rfl rfl ?_)
    refine vc_e (e_skip rfl rfl ?_)
    refine vc_y rfl rfl (y_pickt rfl rfl) ?_
    refine vc_y rfl rfl (y_mv rfl) ?_
    refine vc_e (e_skip rfl rfl ?_)
    refine vc_e (e_skip rfl rfl ?_)
    refine vc_y rfl rfl (y_pickt rfl rfl) ?_
    refine vc_end ?_
    refine vq_then ?_
    refine vc_keep [(0, _), (20, _)] ⟨rfl, rfl, trivial⟩ ?_
    refine vc_ift rfl ?_
    refine vc_seq ?_
    refine vc_region ?_
    refine vc_y rfl rfl (y_as rfl) ?_
    refine vc_end ?_
    refine vq_then ?_
    refine vc_keep [(2, _)] ⟨rfl, trivial⟩ ?_
    refine vc_ret ?_
    refine vq_then_ret ?_
    refine vq_ret1 st (.inl rfl) Try.results15 (.tmp rfl) ?_
    refine ⟨_, rfl, ?_⟩
    refine ⟨?_, rfl⟩
    rw [Value.bool.injEq]
    first
    | (symm; apply isName_nil; first | assumption | (apply List.eq_nil_of_length_eq_zero; omega))
    | (symm; apply isName_long; omega)
    | (symm; apply isName_digit; assumption)
    | (symm; apply isName_word; assumption)
    | (symm; rw [isName_eq (by first | assumption | (intro h; subst h; simp at *)) (by omega) (by assumption) (by assumption)]; exact all_no (m := m) (by omega) (by simp only [isIdent, *, Bool.or_true, Bool.true_or, Bool.or_self]))
    | (symm; rw [isName_eq (by first | assumption | (intro h; subst h; simp at *)) (by omega) (by assumption) (by assumption)]; rw [List.take_of_length_le (by omega)] at hall; exact hall)
  · intro hg7
    try simp only [decide_eq_true_eq, decide_eq_false_iff_not, Bool.not_eq_true', Bool.not_eq_false', Bool.not_eq_true, Bool.not_eq_false, Int.not_lt, Int.not_le, Nat.not_lt, Nat.not_le, Bool.not_true, Bool.not_false, Bool.true_eq_false, Bool.false_eq_true] at hg7
    refine vc_y rfl rfl (y_mv rfl) ?_
    refine vc_y rfl rfl (y_lens rfl Try.underlying9) ?_
    refine vc_y rfl rfl (y_gtr rfl rfl) ?_
    refine vc_y rfl rfl (y_pickf rfl rfl) ?_
    refine vc_e (e_mvb rfl rfl rfl ?_ ?_)
    · intro hg12
      try simp only [decide_eq_true_eq, decide_eq_false_iff_not, Bool.not_eq_true', Bool.not_eq_false', Bool.not_eq_true, Bool.not_eq_false, Int.not_lt, Int.not_le, Nat.not_lt, Nat.not_le, Bool.not_true, Bool.not_false, Bool.true_eq_false, Bool.false_eq_true] at hg12
      refine vc_e (e_skip rfl rfl ?_)
      refine vc_e (e_skip rfl rfl ?_)
      refine vc_e (e_skip rfl rfl ?_)
      refine vc_y rfl rfl (y_pickt rfl rfl) ?_
      refine vc_y rfl rfl (y_mv rfl) ?_
      refine vc_e (e_skip rfl rfl ?_)
      refine vc_e (e_skip rfl rfl ?_)
      refine vc_y rfl rfl (y_pickt rfl rfl) ?_
      refine vc_end ?_
      refine vq_then ?_
      refine vc_keep [(0, _), (20, _)] ⟨rfl, rfl, trivial⟩ ?_
      refine vc_ift rfl ?_
      refine vc_seq ?_
      refine vc_region ?_
      refine vc_y rfl rfl (y_as rfl) ?_
      refine vc_end ?_
      refine vq_then ?_
      refine vc_keep [(2, _)] ⟨rfl, trivial⟩ ?_
      refine vc_ret ?_
      refine vq_then_ret ?_
      refine vq_ret1 st (.inl rfl) Try.results15 (.tmp rfl) ?_
      refine ⟨_, rfl, ?_⟩
      refine ⟨?_, rfl⟩
      rw [Value.bool.injEq]
      first
      | (symm; apply isName_nil; first | assumption | (apply List.eq_nil_of_length_eq_zero; omega))
      | (symm; apply isName_long; omega)
      | (symm; apply isName_digit; assumption)
      | (symm; apply isName_word; assumption)
      | (symm; rw [isName_eq (by first | assumption | (intro h; subst h; simp at *)) (by omega) (by assumption) (by assumption)]; exact all_no (m := m) (by omega) (by simp only [isIdent, *, Bool.or_true, Bool.true_or, Bool.or_self]))
      | (symm; rw [isName_eq (by first | assumption | (intro h; subst h; simp at *)) (by omega) (by assumption) (by assumption)]; rw [List.take_of_length_le (by omega)] at hall; exact hall)
    · intro hg12
      try simp only [decide_eq_true_eq, decide_eq_false_iff_not, Bool.not_eq_true', Bool.not_eq_false', Bool.not_eq_true, Bool.not_eq_false, Int.not_lt, Int.not_le, Nat.not_lt, Nat.not_le, Bool.not_true, Bool.not_false, Bool.true_eq_false, Bool.false_eq_true] at hg12
      refine vc_y rfl rfl (y_mv rfl) ?_
      refine vc_y rfl rfl (y_ixs (k := 0) rfl rfl Try.underlying9 rfl (by omega)) ?_
      refine vc_e (e_call [_] rfl rfl Try.call32 rfl (rdigit_any _ _) ?_)
      rintro _ w ⟨rfl, rfl⟩
      refine vc_y rfl rfl (y_pickf rfl rfl) ?_
      refine vc_e (e_mvb rfl rfl rfl ?_ ?_)
      · intro hg17
        try simp only [decide_eq_true_eq, decide_eq_false_iff_not, Bool.not_eq_true', Bool.not_eq_false', Bool.not_eq_true, Bool.not_eq_false, Int.not_lt, Int.not_le, Nat.not_lt, Nat.not_le, Bool.not_true, Bool.not_false, Bool.true_eq_false, Bool.false_eq_true] at hg17
        refine vc_e (e_skip rfl rfl ?_)
        refine vc_e (e_skip rfl rfl ?_)
        refine vc_y rfl rfl (y_pickt rfl rfl) ?_
        refine vc_end ?_
        refine vq_then ?_
        refine vc_keep [(0, _), (20, _)] ⟨rfl, rfl, trivial⟩ ?_
        refine vc_ift rfl ?_
        refine vc_seq ?_
        refine vc_region ?_
        refine vc_y rfl rfl (y_as rfl) ?_
        refine vc_end ?_
        refine vq_then ?_
        refine vc_keep [(2, _)] ⟨rfl, trivial⟩ ?_
        refine vc_ret ?_
        refine vq_then_ret ?_
        refine vq_ret1 st (.inl rfl) Try.results15 (.tmp rfl) ?_
        refine ⟨_, rfl, ?_⟩
        refine ⟨?_, rfl⟩
        rw [Value.bool.injEq]
        first
        | (symm; apply isName_nil; first | assumption | (apply List.eq_nil_of_length_eq_zero; omega))
        | (symm; apply isName_long; omega)
        | (symm; apply isName_digit; assumption)
        | (symm; apply isName_word; assumption)
        | (symm; rw [isName_eq (by first | assumption | (intro h; subst h; simp at *)) (by omega) (by assumption) (by assumption)]; exact all_no (m := m) (by omega) (by simp only [isIdent, *, Bool.or_true, Bool.true_or, Bool.or_self]))
        | (symm; rw [isName_eq (by first | assumption | (intro h; subst h; simp at *)) (by omega) (by assumption) (by assumption)]; rw [List.take_of_length_le (by omega)] at hall; exact hall)
      · intro hg17
        try simp only [decide_eq_true_eq, decide_eq_false_iff_not, Bool.not_eq_true', Bool.not_eq_false', Bool.not_eq_true, Bool.not_eq_false, Int.not_lt, Int.not_le, Nat.not_lt, Nat.not_le, Bool.not_true, Bool.not_false, Bool.true_eq_false, Bool.false_eq_true] at hg17
        refine vc_y rfl rfl (y_mv rfl) ?_
        refine vc_e (e_call [_] rfl rfl Try.call17 rfl (rword_any _ _) ?_)
        rintro _ w ⟨rfl, rfl⟩
        refine vc_y rfl rfl (y_pickf rfl rfl) ?_
        refine vc_end ?_
        refine vq_then ?_
        refine vc_keep [(0, _), (20, _)] ⟨rfl, rfl, trivial⟩ ?_
        refine vc_ifs rfl ?_ ?_
        · intro hc20
          try simp only [decide_eq_true_eq, decide_eq_false_iff_not, Bool.not_eq_true', Bool.not_eq_false', Bool.not_eq_true, Bool.not_eq_false, Int.not_lt, Int.not_le, Nat.not_lt, Nat.not_le, Bool.not_true, Bool.not_false, Bool.true_eq_false, Bool.false_eq_true] at hc20
          refine vc_seq ?_
          refine vc_region ?_
          refine vc_y rfl rfl (y_as rfl) ?_
          refine vc_end ?_
          refine vq_then ?_
          refine vc_keep [(2, _)] ⟨rfl, trivial⟩ ?_
          refine vc_ret ?_
          refine vq_then_ret ?_
          refine vq_ret1 st (.inl rfl) Try.results15 (.tmp rfl) ?_
          refine ⟨_, rfl, ?_⟩
          refine ⟨?_, rfl⟩
          rw [Value.bool.injEq]
          first
          | (symm; apply isName_nil; first | assumption | (apply List.eq_nil_of_length_eq_zero; omega))
          | (symm; apply isName_long; omega)
          | (symm; apply isName_digit; assumption)
          | (symm; apply isName_word; assumption)
          | (symm; rw [isName_eq (by first | assumption | (intro h; subst h; simp at *)) (by omega) (by assumption) (by assumption)]; exact all_no (m := m) (by omega) (by simp only [isIdent, *, Bool.or_true, Bool.true_or, Bool.or_self]))
          | (symm; rw [isName_eq (by first | assumption | (intro h; subst h; simp at *)) (by omega) (by assumption) (by assumption)]; rw [List.take_of_length_le (by omega)] at hall; exact hall)
        · intro hc20
          try simp only [decide_eq_true_eq, decide_eq_false_iff_not, Bool.not_eq_true', Bool.not_eq_false', Bool.not_eq_true, Bool.not_eq_false, Int.not_lt, Int.not_le, Nat.not_lt, Nat.not_le, Bool.not_true, Bool.not_false, Bool.true_eq_false, Bool.false_eq_true] at hc20
          refine vc_code_skip ?_
          refine vq_then ?_
          refine vc_keep [(0, _)] ⟨rfl, trivial⟩ ?_
          refine vc_seq ?_
          refine vc_seq ?_
          refine vc_region ?_
          refine vc_y rfl rfl (y_as rfl) ?_
          refine vc_end ?_
          refine vq_then ?_
          refine vc_keep [(0, _), (3, _)] ⟨rfl, rfl, trivial⟩ ?_
          refine vc_block ?_
          refine vc_loop (w0 := _) (M := _) (fun (m : Nat) => [(0, str l), (3, .int .i64 (m : Int))]) (fun _ => []) (fun m w' => m ≤ l.length ∧ (l.take m).all isIdent = true ∧ w' = w) (fun m => l.length - m) 0 ⟨rfl, rfl, trivial⟩ st ⟨by omega, by simp, rfl⟩ ?_
          rintro m w' ⟨hm, hall, rfl⟩ st
          refine vc_seq ?_
          refine vc_seq ?_
          refine vc_region ?_
          refine vc_y rfl rfl (y_mv rfl) ?_
          refine vc_y rfl rfl (y_mv rfl) ?_
          refine vc_y rfl rfl (y_lens rfl Try.underlying9) ?_
          refine vc_y rfl rfl (y_lss rfl rfl) ?_
          refine vc_end ?_
          refine vq_then ?_
          refine vc_keep [(0, _), (3, _), (24, _)] ⟨rfl, rfl, rfl, trivial⟩ ?_
          refine vc_ifs rfl ?_ ?_
          · intro hc24
            try simp only [decide_eq_true_eq, decide_eq_false_iff_not, Bool.not_eq_true', Bool.not_eq_false', Bool.not_eq_true, Bool.not_eq_false, Int.not_lt, Int.not_le, Nat.not_lt, Nat.not_le, Bool.not_true, Bool.not_false, Bool.true_eq_false, Bool.false_eq_true] at hc24
            refine vc_code_skip ?_
            refine vq_then ?_
            refine vc_keep [(0, _), (3, _)] ⟨rfl, rfl, trivial⟩ ?_
            refine vc_seq ?_
            refine vc_block ?_
            refine vc_seq ?_
            refine vc_region ?_
            refine vc_y rfl rfl (y_mv rfl) ?_
            refine vc_y rfl rfl (y_mv rfl) ?_
            refine vc_y rfl rfl (y_ixs (k := _) rfl rfl Try.underlying9 rfl (by omega)) ?_
            refine vc_e (e_call [_] rfl rfl Try.call33 rfl (rletter_any _ _) ?_)
            rintro _ w ⟨rfl, rfl⟩
            refine vc_y rfl rfl (y_not rfl) ?_
            refine vc_e (e_mvb rfl rfl rfl ?_ ?_)
            · intro hg32
              try simp only [decide_eq_true_eq, decide_eq_false_iff_not, Bool.not_eq_true', Bool.not_eq_false', Bool.not_eq_true, Bool.not_eq_false, Int.not_lt, Int.not_le, Nat.not_lt, Nat.not_le, Bool.not_true, Bool.not_false, Bool.true_eq_false, Bool.false_eq_true] at hg32
              refine vc_y rfl rfl (y_mv rfl) ?_
              refine vc_y rfl rfl (y_mv rfl) ?_
              refine vc_y rfl rfl (y_ixs (k := _) rfl rfl Try.underlying9 rfl (by omega)) ?_
              refine vc_e (e_call [_] rfl rfl Try.call32 rfl (rdigit_any _ _) ?_)
              rintro _ w ⟨rfl, rfl⟩
              refine vc_y rfl rfl (y_not rfl) ?_
              refine vc_y rfl rfl (y_pickt rfl rfl) ?_
              refine vc_end ?_
              refine vq_then ?_
              refine vc_keep [(0, _), (3, _), (38, _)] ⟨rfl, rfl, rfl, trivial⟩ ?_
              refine vc_ifs rfl ?_ ?_
              · intro hc38
                try simp only [decide_eq_true_eq, decide_eq_false_iff_not, Bool.not_eq_true', Bool.not_eq_false', Bool.not_eq_true, Bool.not_eq_false, Int.not_lt, Int.not_le, Nat.not_lt, Nat.not_le, Bool.not_true, Bool.not_false, Bool.true_eq_false, Bool.false_eq_true] at hc38
                refine vc_seq ?_
                refine vc_region ?_
                refine vc_y rfl rfl (y_as rfl) ?_
                refine vc_end ?_
                refine vq_then ?_
                refine vc_keep [(2, _)] ⟨rfl, trivial⟩ ?_
                refine vc_ret ?_
                refine vq_block_ret ?_
                refine vq_then_ret ?_
                refine vq_then_ret ?_
                refine vq_block_ret ?_
                refine vq_then_ret ?_
                refine vq_ret1 st (.inl rfl) Try.results15 (.tmp rfl) ?_
                refine ⟨_, rfl, ?_⟩
                refine ⟨?_, rfl⟩
                rw [Value.bool.injEq]
                first
                | (symm; apply isName_nil; first | assumption | (apply List.eq_nil_of_length_eq_zero; omega))
                | (symm; apply isName_long; omega)
                | (symm; apply isName_digit; assumption)
                | (symm; apply isName_word; assumption)
                | (symm; rw [isName_eq (by first | assumption | (intro h; subst h; simp at *)) (by omega) (by assumption) (by assumption)]; exact all_no (m := m) (by omega) (by simp only [isIdent, *, Bool.or_true, Bool.true_or, Bool.or_self]))
                | (symm; rw [isName_eq (by first | assumption | (intro h; subst h; simp at *)) (by omega) (by assumption) (by assumption)]; rw [List.take_of_length_le (by omega)] at hall; exact hall)
              · intro hc38
                try simp only [decide_eq_true_eq, decide_eq_false_iff_not, Bool.not_eq_true', Bool.not_eq_false', Bool.not_eq_true, Bool.not_eq_false, Int.not_lt, Int.not_le, Nat.not_lt, Nat.not_le, Bool.not_true, Bool.not_false, Bool.true_eq_false, Bool.false_eq_true] at hc38
                refine vc_code_skip ?_
                refine vq_block ?_
                refine vq_then ?_
                refine vc_keep [(0, _), (3, _)] ⟨rfl, rfl, trivial⟩ ?_
                refine vc_region ?_
                refine vc_y rfl rfl (y_mv rfl) ?_
                refine vc_y rfl rfl (y_add rfl rfl rfl (by omega) (by omega)) ?_
                refine vc_y rfl rfl (y_as rfl) ?_
                refine vc_end ?_
                refine vq_again (m + 1) ⟨rfl, rfl, trivial⟩ st ?_ ?_
                · exact ⟨by omega, all_take_succ (by omega) hall (by simp only [isIdent, *, Bool.or_true, Bool.true_or, Bool.or_self]), rfl⟩
                · omega
            · intro hg32
              try simp only [decide_eq_true_eq, decide_eq_false_iff_not, Bool.not_eq_true', Bool.not_eq_false', Bool.not_eq_true, Bool.not_eq_false, Int.not_lt, Int.not_le, Nat.not_lt, Nat.not_le, Bool.not_true, Bool.not_false, Bool.true_eq_false, Bool.false_eq_true] at hg32
              refine vc_e (e_skip rfl rfl ?_)
              refine vc_e (e_skip rfl rfl ?_)
              refine vc_e (e_skip rfl rfl ?_)
              refine vc_e (e_skip rfl rfl ?_)
              refine vc_e (e_skip rfl rfl ?_)
              refine vc_y rfl rfl (y_pickf rfl rfl) ?_
              refine vc_end ?_
              refine vq_then ?_
              refine vc_keep [(0, _), (3, _), (38, _)] ⟨rfl, rfl, rfl, trivial⟩ ?_
              refine vc_iff rfl ?_
              refine vc_code_skip ?_
              refine vq_block ?_
              refine vq_then ?_
              refine vc_keep [(0, _), (3, _)] ⟨rfl, rfl, trivial⟩ ?_
              refine vc_region ?_
              refine vc_y rfl rfl (y_mv rfl) ?_
              refine vc_y rfl rfl (y_add rfl rfl rfl (by omega) (by omega)) ?_
              refine vc_y rfl rfl (y_as rfl) ?_
              refine vc_end ?_
              refine vq_again (m + 1) ⟨rfl, rfl, trivial⟩ st ?_ ?_
              · exact ⟨by omega, all_take_succ (by omega) hall (by simp only [isIdent, *, Bool.or_true, Bool.true_or, Bool.or_self]), rfl⟩
              · omega
          · intro hc24
            try simp only [decide_eq_true_eq, decide_eq_false_iff_not, Bool.not_eq_true', Bool.not_eq_false', Bool.not_eq_true, Bool.not_eq_false, Int.not_lt, Int.not_le, Nat.not_lt, Nat.not_le, Bool.not_true, Bool.not_false, Bool.true_eq_false, Bool.false_eq_true] at hc24
            refine vc_exit ?_
            refine vq_then_exit ?_
            refine vq_then_exit ?_
            refine vq_block_exit ?_
            refine vq_then ?_
            refine vc_keep [] trivial ?_
            refine vc_seq ?_
            refine vc_region ?_
            refine vc_y rfl rfl (y_as rfl) ?_
            refine vc_end ?_
            refine vq_then ?_
            refine vc_keep [(2, _)] ⟨rfl, trivial⟩ ?_
            refine vc_ret ?_
            refine vq_ret1 st (.inl rfl) Try.results15 (.tmp rfl) ?_
            refine ⟨_, rfl, ?_⟩
            refine ⟨?_, rfl⟩
            rw [Value.bool.injEq]
            first
            | (symm; apply isName_nil; first | assumption | (apply List.eq_nil_of_length_eq_zero; omega))
            | (symm; apply isName_long; omega)
            | (symm; apply isName_digit; assumption)
            | (symm; apply isName_word; assumption)
            | (symm; rw [isName_eq (by first | assumption | (intro h; subst h; simp at *)) (by omega) (by assumption) (by assumption)]; exact all_no (m := m) (by omega) (by simp only [isIdent, *, Bool.or_true, Bool.true_or, Bool.or_self]))
            | (symm; rw [isName_eq (by first | assumption | (intro h; subst h; simp at *)) (by omega) (by assumption) (by assumption)]; rw [List.take_of_length_le (by omega)] at hall; exact hall)

set_option maxHeartbeats 2000000 in
theorem rsign_any (l : List UInt8) (w : World) : Ret Try.prog 19 [str l] w fun v w' => v = .bool (isSign l) ∧ w' = w := by
  refine ret_of [_] Try.func19 rfl Try.ntmps19 rfl ?_
  have st := St.init w []
  refine vc_seq ?_
  refine vc_region ?_
  refine vc_y rfl rfl (y_as rfl) ?_
  refine vc_end ?_
  refine vq_then ?_
  refine vc_keep [(0, _)] ⟨rfl, trivial⟩ ?_
  refine vc_seq ?_
  refine vc_seq ?_
  refine vc_region ?_
  refine vc_y rfl rfl (y_mv rfl) ?_
  refine vc_end ?_
  refine vq_then ?_
  refine vc_keep [(3, _)] ⟨rfl, trivial⟩ ?_
  refine vc_block ?_
  refine vc_seq ?_
  refine vc_seq ?_
  refine vc_region ?_
  refine vc_y rfl rfl (y_eqs rfl rfl) ?_
  refine vc_y rfl rfl (y_as rfl) ?_
  refine vc_end ?_
  refine vq_then ?_
  refine vc_keep [(3, _), (4, _)] ⟨rfl, rfl, trivial⟩ ?_
  refine vc_ifs rfl ?_ ?_
  · intro hc4
    try simp only [decide_eq_true_eq, decide_eq_false_iff_not, Bool.not_eq_true', Bool.not_eq_false', Bool.not_eq_true, Bool.not_eq_false, Int.not_lt, Int.not_le, Nat.not_lt, Nat.not_le, Bool.not_true, Bool.not_false, Bool.true_eq_false, Bool.false_eq_true] at hc4
    refine vc_code_skip ?_
    refine vq_then ?_
    refine vc_keep [(4, _)] ⟨rfl, trivial⟩ ?_
    refine vc_ift rfl ?_
    refine vc_seq ?_
    refine vc_region ?_
    refine vc_y rfl rfl (y_as rfl) ?_
    refine vc_end ?_
    refine vq_then ?_
    refine vc_keep [(2, _)] ⟨rfl, trivial⟩ ?_
    refine vc_ret ?_
    refine vq_block_ret ?_
    refine vq_then_ret ?_
    refine vq_ret1 st (.inl rfl) Try.results19 (.tmp rfl) ?_
    refine ⟨_, rfl, ?_⟩
    refine ⟨?_, rfl⟩
    rw [Value.bool.injEq, isSign_ref]
    first
    | (symm; simp only [decide_eq_true_eq]; simp only [*, true_or, or_true]; done)
    | (symm; simp only [decide_eq_false_iff_not]; simp only [*, or_self, not_false_eq_true])
  · intro hc4
    try simp only [decide_eq_true_eq, decide_eq_false_iff_not, Bool.not_eq_true', Bool.not_eq_false', Bool.not_eq_true, Bool.not_eq_false, Int.not_lt, Int.not_le, Nat.not_lt, Nat.not_le, Bool.not_true, Bool.not_false, Bool.true_eq_false, Bool.false_eq_true] at hc4
    refine vc_seq ?_
    refine vc_region ?_
    refine vc_y rfl rfl (y_eqs rfl rfl) ?_
    refine vc_y rfl rfl (y_as rfl) ?_
    refine vc_end ?_
    refine vq_then ?_
    refine vc_keep [(3, _), (4, _)] ⟨rfl, rfl, trivial⟩ ?_
    refine vc_ifs rfl ?_ ?_
    · intro hc4
      try simp only [decide_eq_true_eq, decide_eq_false_iff_not, Bool.not_eq_true', Bool.not_eq_false', Bool.not_eq_true, Bool.not_eq_false, Int.not_lt, Int.not_le, Nat.not_lt, Nat.not_le, Bool.not_true, Bool.not_false, Bool.true_eq_false, Bool.false_eq_true] at hc4
      refine vc_code_skip ?_
      refine vq_then ?_
      refine vc_keep [(4, _)] ⟨rfl, trivial⟩ ?_
      refine vc_ift rfl ?_
      refine vc_seq ?_
      refine vc_region ?_
      refine vc_y rfl rfl (y_as rfl) ?_
      refine vc_end ?_
      refine vq_then ?_
      refine vc_keep [(2, _)] ⟨rfl, trivial⟩ ?_
      refine vc_ret ?_
      refine vq_block_ret ?_
      refine vq_then_ret ?_
      refine vq_ret1 st (.inl rfl) Try.results19 (.tmp rfl) ?_
      refine ⟨_, rfl, ?_⟩
      refine ⟨?_, rfl⟩
      rw [Value.bool.injEq, isSign_ref]
      first
      | (symm; simp only [decide_eq_true_eq]; simp only [*, true_or, or_true]; done)
      | (symm; simp only [decide_eq_false_iff_not]; simp only [*, or_self, not_false_eq_true])
    · intro hc4
      try simp only [decide_eq_true_eq, decide_eq_false_iff_not, Bool.not_eq_true', Bool.not_eq_false', Bool.not_eq_true, Bool.not_eq_false, Int.not_lt, Int.not_le, Nat.not_lt, Nat.not_le, Bool.not_true, Bool.not_false, Bool.true_eq_false, Bool.false_eq_true] at hc4
      refine vc_seq ?_
      refine vc_region ?_
      refine vc_y rfl rfl (y_eqs rfl rfl) ?_
      refine vc_y rfl rfl (y_as rfl) ?_
      refine vc_end ?_
      refine vq_then ?_
      refine vc_keep [(3, _), (4, _)] ⟨rfl, rfl, trivial⟩ ?_
      refine vc_ifs rfl ?_ ?_
      · intro hc4
        try simp only [decide_eq_true_eq, decide_eq_false_iff_not, Bool.not_eq_true', Bool.not_eq_false', Bool.not_eq_true, Bool.not_eq_false, Int.not_lt, Int.not_le, Nat.not_lt, Nat.not_le, Bool.not_true, Bool.not_false, Bool.true_eq_false, Bool.false_eq_true] at hc4
        refine vc_code_skip ?_
        refine vq_then ?_
        refine vc_keep [(4, _)] ⟨rfl, trivial⟩ ?_
        refine vc_ift rfl ?_
        refine vc_seq ?_
        refine vc_region ?_
        refine vc_y rfl rfl (y_as rfl) ?_
        refine vc_end ?_
        refine vq_then ?_
        refine vc_keep [(2, _)] ⟨rfl, trivial⟩ ?_
        refine vc_ret ?_
        refine vq_block_ret ?_
        refine vq_then_ret ?_
        refine vq_ret1 st (.inl rfl) Try.results19 (.tmp rfl) ?_
        refine ⟨_, rfl, ?_⟩
        refine ⟨?_, rfl⟩
        rw [Value.bool.injEq, isSign_ref]
        first
        | (symm; simp only [decide_eq_true_eq]; simp only [*, true_or, or_true]; done)
        | (symm; simp only [decide_eq_false_iff_not]; simp only [*, or_self, not_false_eq_true])
      · intro hc4
        try simp only [decide_eq_true_eq, decide_eq_false_iff_not, Bool.not_eq_true', Bool.not_eq_false', Bool.not_eq_true, Bool.not_eq_false, Int.not_lt, Int.not_le, Nat.not_lt, Nat.not_le, Bool.not_true, Bool.not_false, Bool.true_eq_false, Bool.false_eq_true] at hc4
        refine vc_seq ?_
        refine vc_region ?_
        refine vc_y rfl rfl (y_eqs rfl rfl) ?_
        refine vc_y rfl rfl (y_as rfl) ?_
        refine vc_end ?_
        refine vq_then ?_
        refine vc_keep [(3, _), (4, _)] ⟨rfl, rfl, trivial⟩ ?_
        refine vc_ifs rfl ?_ ?_
        · intro hc4
          try simp only [decide_eq_true_eq, decide_eq_false_iff_not, Bool.not_eq_true', Bool.not_eq_false', Bool.not_eq_true, Bool.not_eq_false, Int.not_lt, Int.not_le, Nat.not_lt, Nat.not_le, Bool.not_true, Bool.not_false, Bool.true_eq_false, Bool.false_eq_true] at hc4
          refine vc_code_skip ?_
          refine vq_then ?_
          refine vc_keep [(4, _)] ⟨rfl, trivial⟩ ?_
          refine vc_ift rfl ?_
          refine vc_seq ?_
          refine vc_region ?_
          refine vc_y rfl rfl (y_as rfl) ?_
          refine vc_end ?_
          refine vq_then ?_
          refine vc_keep [(2, _)] ⟨rfl, trivial⟩ ?_
          refine vc_ret ?_
          refine vq_block_ret ?_
          refine vq_then_ret ?_
          refine vq_ret1 st (.inl rfl) Try.results19 (.tmp rfl) ?_
          refine ⟨_, rfl, ?_⟩
          refine ⟨?_, rfl⟩
          rw [Value.bool.injEq, isSign_ref]
          first
          | (symm; simp only [decide_eq_true_eq]; simp only [*, true_or, or_true]; done)
          | (symm; simp only [decide_eq_false_iff_not]; simp only [*, or_self, not_false_eq_true])
        · intro hc4
          try simp only [decide_eq_true_eq, decide_eq_false_iff_not, Bool.not_eq_true', Bool.not_eq_false', Bool.not_eq_true, Bool.not_eq_false, Int.not_lt, Int.not_le, Nat.not_lt, Nat.not_le, Bool.not_true, Bool.not_false, Bool.true_eq_false, Bool.false_eq_true] at hc4
          refine vc_seq ?_
          refine vc_region ?_
          refine vc_y rfl rfl (y_eqs rfl rfl) ?_
          refine vc_y rfl rfl (y_as rfl) ?_
          refine vc_end ?_
          refine vq_then ?_
          refine vc_keep [(3, _), (4, _)] ⟨rfl, rfl, trivial⟩ ?_
          refine vc_ifs rfl ?_ ?_
          · intro hc4
            try simp only [decide_eq_true_eq, decide_eq_false_iff_not, Bool.not_eq_true', Bool.not_eq_false', Bool.not_eq_true, Bool.not_eq_false, Int.not_lt, Int.not_le, Nat.not_lt, Nat.not_le, Bool.not_true, Bool.not_false, Bool.true_eq_false, Bool.false_eq_true] at hc4
            refine vc_code_skip ?_
            refine vq_then ?_
            refine vc_keep [(4, _)] ⟨rfl, trivial⟩ ?_
            refine vc_ift rfl ?_
            refine vc_seq ?_
            refine vc_region ?_
            refine vc_y rfl rfl (y_as rfl) ?_
            refine vc_end ?_
            refine vq_then ?_
            refine vc_keep [(2, _)] ⟨rfl, trivial⟩ ?_
            refine vc_ret ?_
            refine vq_block_ret ?_
            refine vq_then_ret ?_
            refine vq_ret1 st (.inl rfl) Try.results19 (.tmp rfl) ?_
            refine ⟨_, rfl, ?_⟩
            refine ⟨?_, rfl⟩
            rw [Value.bool.injEq, isSign_ref]
            first
            | (symm; simp only [decide_eq_true_eq]; simp only [*, true_or, or_true]; done)
            | (symm; simp only [decide_eq_false_iff_not]; simp only [*, or_self, not_false_eq_true])
          · intro hc4
            try simp only [decide_eq_true_eq, decide_eq_false_iff_not, Bool.not_eq_true', Bool.not_eq_false', Bool.not_eq_true, Bool.not_eq_false, Int.not_lt, Int.not_le, Nat.not_lt, Nat.not_le, Bool.not_true, Bool.not_false, Bool.true_eq_false, Bool.false_eq_true] at hc4
            refine vc_seq ?_
            refine vc_region ?_
            refine vc_y rfl rfl (y_eqs rfl rfl) ?_
            refine vc_y rfl rfl (y_as rfl) ?_
            refine vc_end ?_
            refine vq_then ?_
            refine vc_keep [(3, _), (4, _)] ⟨rfl, rfl, trivial⟩ ?_
            refine vc_ifs rfl ?_ ?_
            · intro hc4
              try simp only [decide_eq_true_eq, decide_eq_false_iff_not, Bool.not_eq_true', Bool.not_eq_false', Bool.not_eq_true, Bool.not_eq_false, Int.not_lt, Int.not_le, Nat.not_lt, Nat.not_le, Bool.not_true, Bool.not_false, Bool.true_eq_false, Bool.false_eq_true] at hc4
              refine vc_code_skip ?_
              refine vq_then ?_
              refine vc_keep [(4, _)] ⟨rfl, trivial⟩ ?_
              refine vc_ift rfl ?_
              refine vc_seq ?_
              refine vc_region ?_
              refine vc_y rfl rfl (y_as rfl) ?_
              refine vc_end ?_
              refine vq_then ?_
              refine vc_keep [(2, _)] ⟨rfl, trivial⟩ ?_
              refine vc_ret ?_
              refine vq_block_ret ?_
              refine vq_then_ret ?_
              refine vq_ret1 st (.inl rfl) Try.results19 (.tmp rfl) ?_
              refine ⟨_, rfl, ?_⟩
              refine ⟨?_, rfl⟩
              rw [Value.bool.injEq, isSign_ref]
              first
              | (symm; simp only [decide_eq_true_eq]; simp only [*, true_or, or_true]; done)
              | (symm; simp only [decide_eq_false_iff_not]; simp only [*, or_self, not_false_eq_true])
            · intro hc4
              try simp only [decide_eq_true_eq, decide_eq_false_iff_not, Bool.not_eq_true', Bool.not_eq_false', Bool.not_eq_true, Bool.not_eq_false, Int.not_lt, Int.not_le, Nat.not_lt, Nat.not_le, Bool.not_true, Bool.not_false, Bool.true_eq_false, Bool.false_eq_true] at hc4
              refine vc_seq ?_
              refine vc_region ?_
              refine vc_y rfl rfl (y_eqs rfl rfl) ?_
              refine vc_y rfl rfl (y_as rfl) ?_
              refine vc_end ?_
              refine vq_then ?_
              refine vc_keep [(3, _), (4, _)] ⟨rfl, rfl, trivial⟩ ?_
              refine vc_ifs rfl ?_ ?_
              · intro hc4
                try simp only [decide_eq_true_eq, decide_eq_false_iff_not, Bool.not_eq_true', Bool.not_eq_false', Bool.not_eq_true, Bool.not_eq_false, Int.not_lt, Int.not_le, Nat.not_lt, Nat.not_le, Bool.not_true, Bool.not_false, Bool.true_eq_false, Bool.false_eq_true] at hc4
                refine vc_code_skip ?_
                refine vq_then ?_
                refine vc_keep [(4, _)] ⟨rfl, trivial⟩ ?_
                refine vc_ift rfl ?_
                refine vc_seq ?_
                refine vc_region ?_
                refine vc_y rfl rfl (y_as rfl) ?_
                refine vc_end ?_
                refine vq_then ?_
                refine vc_keep [(2, _)] ⟨rfl, trivial⟩ ?_
                refine vc_ret ?_
                refine vq_block_ret ?_
                refine vq_then_ret ?_
                refine vq_ret1 st (.inl rfl) Try.results19 (.tmp rfl) ?_
                refine ⟨_, rfl, ?_⟩
                refine ⟨?_, rfl⟩
                rw [Value.bool.injEq, isSign_ref]
                first
                | (symm; simp only [decide_eq_true_eq]; simp only [*, true_or, or_true]; done)
                | (symm; simp only [decide_eq_false_iff_not]; simp only [*, or_self, not_false_eq_true])
              · intro hc4
                try simp only [decide_eq_true_eq, decide_eq_false_iff_not, Bool.not_eq_true', Bool.not_eq_false', Bool.not_eq_true, Bool.not_eq_false, Int.not_lt, Int.not_le, Nat.not_lt, Nat.not_le, Bool.not_true, Bool.not_false, Bool.true_eq_false, Bool.false_eq_true] at hc4
                refine vc_seq ?_
                refine vc_region ?_
                refine vc_y rfl rfl (y_eqs rfl rfl) ?_
                refine vc_y rfl rfl (y_as rfl) ?_
                refine vc_end ?_
                refine vq_then ?_
                refine vc_keep [(3, _), (4, _)] ⟨rfl, rfl, trivial⟩ ?_
                refine vc_ifs rfl ?_ ?_
                · intro hc4
                  try simp only [decide_eq_true_eq, decide_eq_false_iff_not, Bool.not_eq_true', Bool.not_eq_false', Bool.not_eq_true, Bool.not_eq_false, Int.not_lt, Int.not_le, Nat.not_lt, Nat.not_le, Bool.not_true, Bool.not_false, Bool.true_eq_false, Bool.false_eq_true] at hc4
                  refine vc_code_skip ?_
                  refine vq_then ?_
                  refine vc_keep [(4, _)] ⟨rfl, trivial⟩ ?_
                  refine vc_ift rfl ?_
                  refine vc_seq ?_
                  refine vc_region ?_
                  refine vc_y rfl rfl (y_as rfl) ?_
                  refine vc_end ?_
                  refine vq_then ?_
                  refine vc_keep [(2, _)] ⟨rfl, trivial⟩ ?_
                  refine vc_ret ?_
                  refine vq_block_ret ?_
                  refine vq_then_ret ?_
                  refine vq_ret1 st (.inl rfl) Try.results19 (.tmp rfl) ?_
                  refine ⟨_, rfl, ?_⟩
                  refine ⟨?_, rfl⟩
                  rw [Value.bool.injEq, isSign_ref]
                  first
                  | (symm; simp only [decide_eq_true_eq]; simp only [*, true_or, or_true]; done)
                  | (symm; simp only [decide_eq_false_iff_not]; simp only [*, or_self, not_false_eq_true])
                · intro hc4
                  try simp only [decide_eq_true_eq, decide_eq_false_iff_not, Bool.not_eq_true', Bool.not_eq_false', Bool.not_eq_true, Bool.not_eq_false, Int.not_lt, Int.not_le, Nat.not_lt, Nat.not_le, Bool.not_true, Bool.not_false, Bool.true_eq_false, Bool.false_eq_true] at hc4
                  refine vc_seq ?_
                  refine vc_region ?_
                  refine vc_y rfl rfl (y_eqs rfl rfl) ?_
                  refine vc_y rfl rfl (y_as rfl) ?_
                  refine vc_end ?_
                  refine vq_then ?_
                  refine vc_keep [(3, _), (4, _)] ⟨rfl, rfl, trivial⟩ ?_
                  refine vc_ifs rfl ?_ ?_
                  · intro hc4
                    try simp only [decide_eq_true_eq, decide_eq_false_iff_not, Bool.not_eq_true', Bool.not_eq_false', Bool.not_eq_true, Bool.not_eq_false, Int.not_lt, Int.not_le, Nat.not_lt, Nat.not_le, Bool.not_true, Bool.not_false, Bool.true_eq_false, Bool.false_eq_true] at hc4
                    refine vc_code_skip ?_
                    refine vq_then ?_
                    refine vc_keep [(4, _)] ⟨rfl, trivial⟩ ?_
                    refine vc_ift rfl ?_
                    refine vc_seq ?_
                    refine vc_region ?_
                    refine vc_y rfl rfl (y_as rfl) ?_
                    refine vc_end ?_
                    refine vq_then ?_
                    refine vc_keep [(2, _)] ⟨rfl, trivial⟩ ?_
                    refine vc_ret ?_
                    refine vq_block_ret ?_
                    refine vq_then_ret ?_
                    refine vq_ret1 st (.inl rfl) Try.results19 (.tmp rfl) ?_
                    refine ⟨_, rfl, ?_⟩
                    refine ⟨?_, rfl⟩
                    rw [Value.bool.injEq, isSign_ref]
                    first
                    | (symm; simp only [decide_eq_true_eq]; simp only [*, true_or, or_true]; done)
                    | (symm; simp only [decide_eq_false_iff_not]; simp only [*, or_self, not_false_eq_true])
                  · intro hc4
                    try simp only [decide_eq_true_eq, decide_eq_false_iff_not, Bool.not_eq_true', Bool.not_eq_false', Bool.not_eq_true, Bool.not_eq_false, Int.not_lt, Int.not_le, Nat.not_lt, Nat.not_le, Bool.not_true, Bool.not_false, Bool.true_eq_false, Bool.false_eq_true] at hc4
                    refine vc_seq ?_
                    refine vc_region ?_
                    refine vc_y rfl rfl (y_eqs rfl rfl) ?_
                    refine vc_y rfl rfl (y_as rfl) ?_
                    refine vc_end ?_
                    refine vq_then ?_
                    refine vc_keep [(3, _), (4, _)] ⟨rfl, rfl, trivial⟩ ?_
                    refine vc_ifs rfl ?_ ?_
                    · intro hc4
                      try simp only [decide_eq_true_eq, decide_eq_false_iff_not, Bool.not_eq_true', Bool.not_eq_false', Bool.not_eq_true, Bool.not_eq_false, Int.not_lt, Int.not_le, Nat.not_lt, Nat.not_le, Bool.not_true, Bool.not_false, Bool.true_eq_false, Bool.false_eq_true] at hc4
                      refine vc_code_skip ?_
                      refine vq_then ?_
                      refine vc_keep [(4, _)] ⟨rfl, trivial⟩ ?_
                      refine vc_ift rfl ?_
                      refine vc_seq ?_
                      refine vc_region ?_
                      refine vc_y rfl rfl (y_as rfl) ?_
                      refine vc_end ?_
                      refine vq_then ?_
                      refine vc_keep [(2, _)] ⟨rfl, trivial⟩ ?_
                      refine vc_ret ?_
                      refine vq_block_ret ?_
                      refine vq_then_ret ?_
                      refine vq_ret1 st (.inl rfl) Try.results19 (.tmp rfl) ?_
                      refine ⟨_, rfl, ?_⟩
                      refine ⟨?_, rfl⟩
                      rw [Value.bool.injEq, isSign_ref]
                      first
                      | (symm; simp only [decide_eq_true_eq]; simp only [*, true_or, or_true]; done)
                      | (symm; simp only [decide_eq_false_iff_not]; simp only [*, or_self, not_false_eq_true])
                    · intro hc4
                      try simp only [decide_eq_true_eq, decide_eq_false_iff_not, Bool.not_eq_true', Bool.not_eq_false', Bool.not_eq_true, Bool.not_eq_false, Int.not_lt, Int.not_le, Nat.not_lt, Nat.not_le, Bool.not_true, Bool.not_false, Bool.true_eq_false, Bool.false_eq_true] at hc4
                      refine vc_seq ?_
                      refine vc_region ?_
                      refine vc_y rfl rfl (y_eqs rfl rfl) ?_
                      refine vc_y rfl rfl (y_as rfl) ?_
                      refine vc_end ?_
                      refine vq_then ?_
                      refine vc_keep [(3, _), (4, _)] ⟨rfl, rfl, trivial⟩ ?_
                      refine vc_ifs rfl ?_ ?_
                      · intro hc4
                        try simp only [decide_eq_true_eq, decide_eq_false_iff_not, Bool.not_eq_true', Bool.not_eq_false', Bool.not_eq_true, Bool.not_eq_false, Int.not_lt, Int.not_le, Nat.not_lt, Nat.not_le, Bool.not_true, Bool.not_false, Bool.true_eq_false, Bool.false_eq_true] at hc4
                        refine vc_code_skip ?_
                        refine vq_then ?_
                        refine vc_keep [(4, _)] ⟨rfl, trivial⟩ ?_
                        refine vc_ift rfl ?_
                        refine vc_seq ?_
                        refine vc_region ?_
                        refine vc_y rfl rfl (y_as rfl) ?_
                        refine vc_end ?_
                        refine vq_then ?_
                        refine vc_keep [(2, _)] ⟨rfl, trivial⟩ ?_
                        refine vc_ret ?_
                        refine vq_block_ret ?_
                        refine vq_then_ret ?_
                        refine vq_ret1 st (.inl rfl) Try.results19 (.tmp rfl) ?_
                        refine ⟨_, rfl, ?_⟩
                        refine ⟨?_, rfl⟩
                        rw [Value.bool.injEq, isSign_ref]
                        first
                        | (symm; simp only [decide_eq_true_eq]; simp only [*, true_or, or_true]; done)
                        | (symm; simp only [decide_eq_false_iff_not]; simp only [*, or_self, not_false_eq_true])
                      · intro hc4
                        try simp only [decide_eq_true_eq, decide_eq_false_iff_not, Bool.not_eq_true', Bool.not_eq_false', Bool.not_eq_true, Bool.not_eq_false, Int.not_lt, Int.not_le, Nat.not_lt, Nat.not_le, Bool.not_true, Bool.not_false, Bool.true_eq_false, Bool.false_eq_true] at hc4
                        refine vc_seq ?_
                        refine vc_region ?_
                        refine vc_y rfl rfl (y_eqs rfl rfl) ?_
                        refine vc_y rfl rfl (y_as rfl) ?_
                        refine vc_end ?_
                        refine vq_then ?_
                        refine vc_keep [(3, _), (4, _)] ⟨rfl, rfl, trivial⟩ ?_
                        refine vc_ifs rfl ?_ ?_
                        · intro hc4
                          try simp only [decide_eq_true_eq, decide_eq_false_iff_not, Bool.not_eq_true', Bool.not_eq_false', Bool.not_eq_true, Bool.not_eq_false, Int.not_lt, Int.not_le, Nat.not_lt, Nat.not_le, Bool.not_true, Bool.not_false, Bool.true_eq_false, Bool.false_eq_true] at hc4
                          refine vc_code_skip ?_
                          refine vq_then ?_
                          refine vc_keep [(4, _)] ⟨rfl, trivial⟩ ?_
                          refine vc_ift rfl ?_
                          refine vc_seq ?_
                          refine vc_region ?_
                          refine vc_y rfl rfl (y_as rfl) ?_
                          refine vc_end ?_
                          refine vq_then ?_
                          refine vc_keep [(2, _)] ⟨rfl, trivial⟩ ?_
                          refine vc_ret ?_
                          refine vq_block_ret ?_
                          refine vq_then_ret ?_
                          refine vq_ret1 st (.inl rfl) Try.results19 (.tmp rfl) ?_
                          refine ⟨_, rfl, ?_⟩
                          refine ⟨?_, rfl⟩
                          rw [Value.bool.injEq, isSign_ref]
                          first
                          | (symm; simp only [decide_eq_true_eq]; simp only [*, true_or, or_true]; done)
                          | (symm; simp only [decide_eq_false_iff_not]; simp only [*, or_self, not_false_eq_true])
                        · intro hc4
                          try simp only [decide_eq_true_eq, decide_eq_false_iff_not, Bool.not_eq_true', Bool.not_eq_false', Bool.not_eq_true, Bool.not_eq_false, Int.not_lt, Int.not_le, Nat.not_lt, Nat.not_le, Bool.not_true, Bool.not_false, Bool.true_eq_false, Bool.false_eq_true] at hc4
                          refine vc_seq ?_
                          refine vc_region ?_
                          refine vc_y rfl rfl (y_eqs rfl rfl) ?_
                          refine vc_y rfl rfl (y_as rfl) ?_
                          refine vc_end ?_
                          refine vq_then ?_
                          refine vc_keep [(3, _), (4, _)] ⟨rfl, rfl, trivial⟩ ?_
                          refine vc_ifs rfl ?_ ?_
                          · intro hc4
                            try simp only [decide_eq_true_eq, decide_eq_false_iff_not, Bool.not_eq_true', Bool.not_eq_false', Bool.not_eq_true, Bool.not_eq_false, Int.not_lt, Int.not_le, Nat.not_lt, Nat.not_le, Bool.not_true, Bool.not_false, Bool.true_eq_false, Bool.false_eq_true] at hc4
                            refine vc_code_skip ?_
                            refine vq_then ?_
                            refine vc_keep [(4, _)] ⟨rfl, trivial⟩ ?_
                            refine vc_ift rfl ?_
                            refine vc_seq ?_
                            refine vc_region ?_
                            refine vc_y rfl rfl (y_as rfl) ?_
                            refine vc_end ?_
                            refine vq_then ?_
                            refine vc_keep [(2, _)] ⟨rfl, trivial⟩ ?_
                            refine vc_ret ?_
                            refine vq_block_ret ?_
                            refine vq_then_ret ?_
                            refine vq_ret1 st (.inl rfl) Try.results19 (.tmp rfl) ?_
                            refine ⟨_, rfl, ?_⟩
                            refine ⟨?_, rfl⟩
                            rw [Value.bool.injEq, isSign_ref]
                            first
                            | (symm; simp only [decide_eq_true_eq]; simp only [*, true_or, or_true]; done)
                            | (symm; simp only [decide_eq_false_iff_not]; simp only [*, or_self, not_false_eq_true])
                          · intro hc4
                            try simp only [decide_eq_true_eq, decide_eq_false_iff_not, Bool.not_eq_true', Bool.not_eq_false', Bool.not_eq_true, Bool.not_eq_false, Int.not_lt, Int.not_le, Nat.not_lt, Nat.not_le, Bool.not_true, Bool.not_false, Bool.true_eq_false, Bool.false_eq_true] at hc4
                            refine vc_seq ?_
                            refine vc_region ?_
                            refine vc_y rfl rfl (y_eqs rfl rfl) ?_
                            refine vc_y rfl rfl (y_as rfl) ?_
                            refine vc_end ?_
                            refine vq_then ?_
                            refine vc_keep [(3, _), (4, _)] ⟨rfl, rfl, trivial⟩ ?_
                            refine vc_ifs rfl ?_ ?_
                            · intro hc4
                              try simp only [decide_eq_true_eq, decide_eq_false_iff_not, Bool.not_eq_true', Bool.not_eq_false', Bool.not_eq_true, Bool.not_eq_false, Int.not_lt, Int.not_le, Nat.not_lt, Nat.not_le, Bool.not_true, Bool.not_false, Bool.true_eq_false, Bool.false_eq_true] at hc4
                              refine vc_code_skip ?_
                              refine vq_then ?_
                              refine vc_keep [(4, _)] ⟨rfl, trivial⟩ ?_
                              refine vc_ift rfl ?_
                              refine vc_seq ?_
                              refine vc_region ?_
                              refine vc_y rfl rfl (y_as rfl) ?_
                              refine vc_end ?_
                              refine vq_then ?_
                              refine vc_keep [(2, _)] ⟨rfl, trivial⟩ ?_
                              refine vc_ret ?_
                              refine vq_block_ret ?_
                              refine vq_then_ret ?_
                              refine vq_ret1 st (.inl rfl) Try.results19 (.tmp rfl) ?_
                              refine ⟨_, rfl, ?_⟩
                              refine ⟨?_, rfl⟩
                              rw [Value.bool.injEq, isSign_ref]
                              first
                              | (symm; simp only [decide_eq_true_eq]; simp only [*, true_or, or_true]; done)
                              | (symm; simp only [decide_eq_false_iff_not]; simp only [*, or_self, not_false_eq_true])
                            · intro hc4
                              try simp only [decide_eq_true_eq, decide_eq_false_iff_not, Bool.not_eq_true', Bool.not_eq_false', Bool.not_eq_true, Bool.not_eq_false, Int.not_lt, Int.not_le, Nat.not_lt, Nat.not_le, Bool.not_true, Bool.not_false, Bool.true_eq_false, Bool.false_eq_true] at hc4
                              refine vc_seq ?_
                              refine vc_region ?_
                              refine vc_y rfl rfl (y_eqs rfl rfl) ?_
                              refine vc_y rfl rfl (y_as rfl) ?_
                              refine vc_end ?_
                              refine vq_then ?_
                              refine vc_keep [(3, _), (4, _)] ⟨rfl, rfl, trivial⟩ ?_
                              refine vc_ifs rfl ?_ ?_
                              · intro hc4
                                try simp only [decide_eq_true_eq, decide_eq_false_iff_not, Bool.not_eq_true', Bool.not_eq_false', Bool.not_eq_true, Bool.not_eq_false, Int.not_lt, Int.not_le, Nat.not_lt, Nat.not_le, Bool.not_true, Bool.not_false, Bool.true_eq_false, Bool.false_eq_true] at hc4
                                refine vc_code_skip ?_
                                refine vq_then ?_
                                refine vc_keep [(4, _)] ⟨rfl, trivial⟩ ?_
                                refine vc_ift rfl ?_
                                refine vc_seq ?_
                                refine vc_region ?_
                                refine vc_y rfl rfl (y_as rfl) ?_
                                refine vc_end ?_
                                refine vq_then ?_
                                refine vc_keep [(2, _)] ⟨rfl, trivial⟩ ?_
                                refine vc_ret ?_
                                refine vq_block_ret ?_
                                refine vq_then_ret ?_
                                refine vq_ret1 st (.inl rfl) Try.results19 (.tmp rfl) ?_
                                refine ⟨_, rfl, ?_⟩
                                refine ⟨?_, rfl⟩
                                rw [Value.bool.injEq, isSign_ref]
                                first
                                | (symm; simp only [decide_eq_true_eq]; simp only [*, true_or, or_true]; done)
                                | (symm; simp only [decide_eq_false_iff_not]; simp only [*, or_self, not_false_eq_true])
                              · intro hc4
                                try simp only [decide_eq_true_eq, decide_eq_false_iff_not, Bool.not_eq_true', Bool.not_eq_false', Bool.not_eq_true, Bool.not_eq_false, Int.not_lt, Int.not_le, Nat.not_lt, Nat.not_le, Bool.not_true, Bool.not_false, Bool.true_eq_false, Bool.false_eq_true] at hc4
                                refine vc_seq ?_
                                refine vc_region ?_
                                refine vc_y rfl rfl (y_eqs rfl rfl) ?_
                                refine vc_y rfl rfl (y_as rfl) ?_
                                refine vc_end ?_
                                refine vq_then ?_
                                refine vc_keep [(3, _), (4, _)] ⟨rfl, rfl, trivial⟩ ?_
                                refine vc_ifs rfl ?_ ?_
                                · intro hc4
                                  try simp only [decide_eq_true_eq, decide_eq_false_iff_not, Bool.not_eq_true', Bool.not_eq_false', Bool.not_eq_true, Bool.not_eq_false, Int.not_lt, Int.not_le, Nat.not_lt, Nat.not_le, Bool.not_true, Bool.not_false, Bool.true_eq_false, Bool.false_eq_true] at hc4
                                  refine vc_code_skip ?_
                                  refine vq_then ?_
                                  refine vc_keep [(4, _)] ⟨rfl, trivial⟩ ?_
                                  refine vc_ift rfl ?_
                                  refine vc_seq ?_
                                  refine vc_region ?_
                                  refine vc_y rfl rfl (y_as rfl) ?_
                                  refine vc_end ?_
                                  refine vq_then ?_
                                  refine vc_keep [(2, _)] ⟨rfl, trivial⟩ ?_
                                  refine vc_ret ?_
                                  refine vq_block_ret ?_
                                  refine vq_then_ret ?_
                                  refine vq_ret1 st (.inl rfl) Try.results19 (.tmp rfl) ?_
                                  refine ⟨_, rfl, ?_⟩
                                  refine ⟨?_, rfl⟩
                                  rw [Value.bool.injEq, isSign_ref]
                                  first
                                  | (symm; simp only [decide_eq_true_eq]; simp only [*, true_or, or_true]; done)
                                  | (symm; simp only [decide_eq_false_iff_not]; simp only [*, or_self, not_false_eq_true])
                                · intro hc4
                                  try simp only [decide_eq_true_eq, decide_eq_false_iff_not, Bool.not_eq_true', Bool.not_eq_false', Bool.not_eq_true, Bool.not_eq_false, Int.not_lt, Int.not_le, Nat.not_lt, Nat.not_le, Bool.not_true, Bool.not_false, Bool.true_eq_false, Bool.false_eq_true] at hc4
                                  refine vc_seq ?_
                                  refine vc_region ?_
                                  refine vc_y rfl rfl (y_eqs rfl rfl) ?_
                                  refine vc_y rfl rfl (y_as rfl) ?_
                                  refine vc_end ?_
                                  refine vq_then ?_
                                  refine vc_keep [(3, _), (4, _)] ⟨rfl, rfl, trivial⟩ ?_
                                  refine vc_ifs rfl ?_ ?_
                                  · intro hc4
                                    try simp only [decide_eq_true_eq, decide_eq_false_iff_not, Bool.not_eq_true', Bool.not_eq_false', Bool.not_eq_true, Bool.not_eq_false, Int.not_lt, Int.not_le, Nat.not_lt, Nat.not_le, Bool.not_true, Bool.not_false, Bool.true_eq_false, Bool.false_eq_true] at hc4
                                    refine vc_code_skip ?_
                                    refine vq_then ?_
                                    refine vc_keep [(4, _)] ⟨rfl, trivial⟩ ?_
                                    refine vc_ift rfl ?_
                                    refine vc_seq ?_
                                    refine vc_region ?_
                                    refine vc_y rfl rfl (y_as rfl) ?_
                                    refine vc_end ?_
                                    refine vq_then ?_
                                    refine vc_keep [(2, _)] ⟨rfl, trivial⟩ ?_
                                    refine vc_ret ?_
                                    refine vq_block_ret ?_
                                    refine vq_then_ret ?_
                                    refine vq_ret1 st (.inl rfl) Try.results19 (.tmp rfl) ?_
                                    refine ⟨_, rfl, ?_⟩
                                    refine ⟨?_, rfl⟩
                                    rw [Value.bool.injEq, isSign_ref]
                                    first
                                    | (symm; simp only [decide_eq_true_eq]; simp only [*, true_or, or_true]; done)
                                    | (symm; simp only [decide_eq_false_iff_not]; simp only [*, or_self, not_false_eq_true])
                                  · intro hc4
                                    try simp only [decide_eq_true_eq, decide_eq_false_iff_not, Bool.not_eq_true', Bool.not_eq_false', Bool.not_eq_true, Bool.not_eq_false, Int.not_lt, Int.not_le, Nat.not_lt, Nat.not_le, Bool.not_true, Bool.not_false, Bool.true_eq_false, Bool.false_eq_true] at hc4
                                    refine vc_seq ?_
                                    refine vc_region ?_
                                    refine vc_y rfl rfl (y_eqs rfl rfl) ?_
                                    refine vc_y rfl rfl (y_as rfl) ?_
                                    refine vc_end ?_
                                    refine vq_then ?_
                                    refine vc_keep [(3, _), (4, _)] ⟨rfl, rfl, trivial⟩ ?_
                                    refine vc_ifs rfl ?_ ?_
                                    · intro hc4
                                      try simp only [decide_eq_true_eq, decide_eq_false_iff_not, Bool.not_eq_true', Bool.not_eq_false', Bool.not_eq_true, Bool.not_eq_false, Int.not_lt, Int.not_le, Nat.not_lt, Nat.not_le, Bool.not_true, Bool.not_false, Bool.true_eq_false, Bool.false_eq_true] at hc4
                                      refine vc_code_skip ?_
                                      refine vq_then ?_
                                      refine vc_keep [(4, _)] ⟨rfl, trivial⟩ ?_
                                      refine vc_ift rfl ?_
                                      refine vc_seq ?_
                                      refine vc_region ?_
                                      refine vc_y rfl rfl (y_as rfl) ?_
                                      refine vc_end ?_
                                      refine vq_then ?_
                                      refine vc_keep [(2, _)] ⟨rfl, trivial⟩ ?_
                                      refine vc_ret ?_
                                      refine vq_block_ret ?_
                                      refine vq_then_ret ?_
                                      refine vq_ret1 st (.inl rfl) Try.results19 (.tmp rfl) ?_
                                      refine ⟨_, rfl, ?_⟩
                                      refine ⟨?_, rfl⟩
                                      rw [Value.bool.injEq, isSign_ref]
                                      first
                                      | (symm; simp only [decide_eq_true_eq]; simp only [*, true_or, or_true]; done)
                                      | (symm; simp only [decide_eq_false_iff_not]; simp only [*, or_self, not_false_eq_true])
                                    · intro hc4
                                      try simp only [decide_eq_true_eq, decide_eq_false_iff_not, Bool.not_eq_true', Bool.not_eq_false', Bool.not_eq_true, Bool.not_eq_false, Int.not_lt, Int.not_le, Nat.not_lt, Nat.not_le, Bool.not_true, Bool.not_false, Bool.true_eq_false, Bool.false_eq_true] at hc4
                                      refine vc_seq ?_
                                      refine vc_region ?_
                                      refine vc_y rfl rfl (y_eqs rfl rfl) ?_
                                      refine vc_y rfl rfl (y_as rfl) ?_
                                      refine vc_end ?_
                                      refine vq_then ?_
                                      refine vc_keep [(3, _), (4, _)] ⟨rfl, rfl, trivial⟩ ?_
                                      refine vc_ifs rfl ?_ ?_
                                      · intro hc4
                                        try simp only [decide_eq_true_eq, decide_eq_false_iff_not, Bool.not_eq_true', Bool.not_eq_false', Bool.not_eq_true, Bool.not_eq_false, Int.not_lt, Int.not_le, Nat.not_lt, Nat.not_le, Bool.not_true, Bool.not_false, Bool.true_eq_false, Bool.false_eq_true] at hc4
                                        refine vc_code_skip ?_
                                        refine vq_then ?_
                                        refine vc_keep [(4, _)] ⟨rfl, trivial⟩ ?_
                                        refine vc_ift rfl ?_
                                        refine vc_seq ?_
                                        refine vc_region ?_
                                        refine vc_y rfl rfl (y_as rfl) ?_
                                        refine vc_end ?_
                                        refine vq_then ?_
                                        refine vc_keep [(2, _)] ⟨rfl, trivial⟩ ?_
                                        refine vc_ret ?_
                                        refine vq_block_ret ?_
                                        refine vq_then_ret ?_
                                        refine vq_ret1 st (.inl rfl) Try.results19 (.tmp rfl) ?_
                                        refine ⟨_, rfl, ?_⟩
                                        refine ⟨?_, rfl⟩
                                        rw [Value.bool.injEq, isSign_ref]
                                        first
                                        | (symm; simp only [decide_eq_true_eq]; simp only [*, true_or, or_true]; done)
                                        | (symm; simp only [decide_eq_false_iff_not]; simp only [*, or_self, not_false_eq_true])
                                      · intro hc4
                                        try simp only [decide_eq_true_eq, decide_eq_false_iff_not, Bool.not_eq_true', Bool.not_eq_false', Bool.not_eq_true, Bool.not_eq_false, Int.not_lt, Int.not_le, Nat.not_lt, Nat.not_le, Bool.not_true, Bool.not_false, Bool.true_eq_false, Bool.false_eq_true] at hc4
                                        refine vc_seq ?_
                                        refine vc_region ?_
                                        refine vc_y rfl rfl (y_eqs rfl rfl) ?_
                                        refine vc_y rfl rfl (y_as rfl) ?_
                                        refine vc_end ?_
                                        refine vq_then ?_
                                        refine vc_keep [(3, _), (4, _)] ⟨rfl, rfl, trivial⟩ ?_
                                        refine vc_ifs rfl ?_ ?_
                                        · intro hc4
                                          try simp only [decide_eq_true_eq, decide_eq_false_iff_not, Bool.not_eq_true', Bool.not_eq_false', Bool.not_eq_true, Bool.not_eq_false, Int.not_lt, Int.not_le, Nat.not_lt, Nat.not_le, Bool.not_true, Bool.not_false, Bool.true_eq_false, Bool.false_eq_true] at hc4
                                          refine vc_code_skip ?_
                                          refine vq_then ?_
                                          refine vc_keep [(4, _)] ⟨rfl, trivial⟩ ?_
                                          refine vc_ift rfl ?_
                                          refine vc_seq ?_
                                          refine vc_region ?_
                                          refine vc_y rfl rfl (y_as rfl) ?_
                                          refine vc_end ?_
                                          refine vq_then ?_
                                          refine vc_keep [(2, _)] ⟨rfl, trivial⟩ ?_
                                          refine vc_ret ?_
                                          refine vq_block_ret ?_
                                          refine vq_then_ret ?_
                                          refine vq_ret1 st (.inl rfl) Try.results19 (.tmp rfl) ?_
                                          refine ⟨_, rfl, ?_⟩
                                          refine ⟨?_, rfl⟩
                                          rw [Value.bool.injEq, isSign_ref]
                                          first
                                          | (symm; simp only [decide_eq_true_eq]; simp only [*, true_or, or_true]; done)
                                          | (symm; simp only [decide_eq_false_iff_not]; simp only [*, or_self, not_false_eq_true])
                                        · intro hc4
                                          try simp only [decide_eq_true_eq, decide_eq_false_iff_not, Bool.not_eq_true', Bool.not_eq_false', Bool.not_eq_true, Bool.not_eq_false, Int.not_lt, Int.not_le, Nat.not_lt, Nat.not_le, Bool.not_true, Bool.not_false, Bool.true_eq_false, Bool.false_eq_true] at hc4
                                          refine vc_seq ?_
                                          refine vc_region ?_
                                          refine vc_y rfl rfl (y_eqs rfl rfl) ?_
                                          refine vc_y rfl rfl (y_as rfl) ?_
                                          refine vc_end ?_
                                          refine vq_then ?_
                                          refine vc_keep [(3, _), (4, _)] ⟨rfl, rfl, trivial⟩ ?_
                                          refine vc_ifs rfl ?_ ?_
                                          · intro hc4
                                            try simp only [decide_eq_true_eq, decide_eq_false_iff_not, Bool.not_eq_true', Bool.not_eq_false', Bool.not_eq_true, Bool.not_eq_false, Int.not_lt, Int.not_le, Nat.not_lt, Nat.not_le, Bool.not_true, Bool.not_false, Bool.true_eq_false, Bool.false_eq_true] at hc4
                                            refine vc_code_skip ?_
                                            refine vq_then ?_
                                            refine vc_keep [(4, _)] ⟨rfl, trivial⟩ ?_
                                            refine vc_ift rfl ?_
                                            refine vc_seq ?_
                                            refine vc_region ?_
                                            refine vc_y rfl rfl (y_as rfl) ?_
                                            refine vc_end ?_
                                            refine vq_then ?_
                                            refine vc_keep [(2, _)] ⟨rfl, trivial⟩ ?_
                                            refine vc_ret ?_
                                            refine vq_block_ret ?_
                                            refine vq_then_ret ?_
                                            refine vq_ret1 st (.inl rfl) Try.results19 (.tmp rfl) ?_
                                            refine ⟨_, rfl, ?_⟩
                                            refine ⟨?_, rfl⟩
                                            rw [Value.bool.injEq, isSign_ref]
                                            first
                                            | (symm; simp only [decide_eq_true_eq]; simp only [*, true_or, or_true]; done)
                                            | (symm; simp only [decide_eq_false_iff_not]; simp only [*, or_self, not_false_eq_true])
                                          · intro hc4
                                            try simp only [decide_eq_true_eq, decide_eq_false_iff_not, Bool.not_eq_true', Bool.not_eq_false', Bool.not_eq_true, Bool.not_eq_false, Int.not_lt, Int.not_le, Nat.not_lt, Nat.not_le, Bool.not_true, Bool.not_false, Bool.true_eq_false, Bool.false_eq_true] at hc4
                                            refine vc_seq ?_
                                            refine vc_region ?_
                                            refine vc_y rfl rfl (y_eqs rfl rfl) ?_
                                            refine vc_y rfl rfl (y_as rfl) ?_
                                            refine vc_end ?_
                                            refine vq_then ?_
                                            refine vc_keep [(3, _), (4, _)] ⟨rfl, rfl, trivial⟩ ?_
                                            refine vc_ifs rfl ?_ ?_
                                            · intro hc4
                                              try simp only [decide_eq_true_eq, decide_eq_false_iff_not, Bool.not_eq_true', Bool.not_eq_false', Bool.not_eq_true, Bool.not_eq_false, Int.not_lt, Int.not_le, Nat.not_lt, Nat.not_le, Bool.not_true, Bool.not_false, Bool.true_eq_false, Bool.false_eq_true] at hc4
                                              refine vc_code_skip ?_
                                              refine vq_then ?_
                                              refine vc_keep [(4, _)] ⟨rfl, trivial⟩ ?_
                                              refine vc_ift rfl ?_
                                              refine vc_seq ?_
                                              refine vc_region ?_
                                              refine vc_y rfl rfl (y_as rfl) ?_
                                              refine vc_end ?_
                                              refine vq_then ?_
                                              refine vc_keep [(2, _)] ⟨rfl, trivial⟩ ?_
                                              refine vc_ret ?_
                                              refine vq_block_ret ?_
                                              refine vq_then_ret ?_
                                              refine vq_ret1 st (.inl rfl) Try.results19 (.tmp rfl) ?_
                                              refine ⟨_, rfl, ?_⟩
                                              refine ⟨?_, rfl⟩
                                              rw [Value.bool.injEq, isSign_ref]
                                              first
                                              | (symm; simp only [decide_eq_true_eq]; simp only [*, true_or, or_true]; done)
                                              | (symm; simp only [decide_eq_false_iff_not]; simp only [*, or_self, not_false_eq_true])
                                            · intro hc4
                                              try simp only [decide_eq_true_eq, decide_eq_false_iff_not, Bool.not_eq_true', Bool.not_eq_false', Bool.not_eq_true, Bool.not_eq_false, Int.not_lt, Int.not_le, Nat.not_lt, Nat.not_le, Bool.not_true, Bool.not_false, Bool.true_eq_false, Bool.false_eq_true] at hc4
                                              refine vc_seq ?_
                                              refine vc_region ?_
                                              refine vc_y rfl rfl (y_eqs rfl rfl) ?_
                                              refine vc_y rfl rfl (y_as rfl) ?_
                                              refine vc_end ?_
                                              refine vq_then ?_
                                              refine vc_keep [(3, _), (4, _)] ⟨rfl, rfl, trivial⟩ ?_
                                              refine vc_ifs rfl ?_ ?_
                                              · intro hc4
                                                try simp only [decide_eq_true_eq, decide_eq_false_iff_not, Bool.not_eq_true', Bool.not_eq_false', Bool.not_eq_true, Bool.not_eq_false, Int.not_lt, Int.not_le, Nat.not_lt, Nat.not_le, Bool.not_true, Bool.not_false, Bool.true_eq_false, Bool.false_eq_true] at hc4
                                                refine vc_code_skip ?_
                                                refine vq_then ?_
                                                refine vc_keep [(4, _)] ⟨rfl, trivial⟩ ?_
                                                refine vc_ift rfl ?_
                                                refine vc_seq ?_
                                                refine vc_region ?_
                                                refine vc_y rfl rfl (y_as rfl) ?_
                                                refine vc_end ?_
                                                refine vq_then ?_
                                                refine vc_keep [(2, _)] ⟨rfl, trivial⟩ ?_
                                                refine vc_ret ?_
                                                refine vq_block_ret ?_
                                                refine vq_then_ret ?_
                                                refine vq_ret1 st (.inl rfl) Try.results19 (.tmp rfl) ?_
                                                refine ⟨_, rfl, ?_⟩
                                                refine ⟨?_, rfl⟩
                                                rw [Value.bool.injEq, isSign_ref]
                                                first
                                                | (symm; simp only [decide_eq_true_eq]; simp only [*, true_or, or_true]; done)
                                                | (symm; simp only [decide_eq_false_iff_not]; simp only [*, or_self, not_false_eq_true])
                                              · intro hc4
                                                try simp only [decide_eq_true_eq, decide_eq_false_iff_not, Bool.not_eq_true', Bool.not_eq_false', Bool.not_eq_true, Bool.not_eq_false, Int.not_lt, Int.not_le, Nat.not_lt, Nat.not_le, Bool.not_true, Bool.not_false, Bool.true_eq_false, Bool.false_eq_true] at hc4
                                                refine vc_region ?_
                                                refine vc_y rfl rfl (y_eqs rfl rfl) ?_
                                                refine vc_y rfl rfl (y_as rfl) ?_
                                                refine vc_end ?_
                                                refine vq_then ?_
                                                refine vc_keep [(4, _)] ⟨rfl, trivial⟩ ?_
                                                refine vc_ifs rfl ?_ ?_
                                                · intro hc4
                                                  try simp only [decide_eq_true_eq, decide_eq_false_iff_not, Bool.not_eq_true', Bool.not_eq_false', Bool.not_eq_true, Bool.not_eq_false, Int.not_lt, Int.not_le, Nat.not_lt, Nat.not_le, Bool.not_true, Bool.not_false, Bool.true_eq_false, Bool.false_eq_true] at hc4
                                                  refine vc_seq ?_
                                                  refine vc_region ?_
                                                  refine vc_y rfl rfl (y_as rfl) ?_
                                                  refine vc_end ?_
                                                  refine vq_then ?_
                                                  refine vc_keep [(2, _)] ⟨rfl, trivial⟩ ?_
                                                  refine vc_ret ?_
                                                  refine vq_block_ret ?_
                                                  refine vq_then_ret ?_
                                                  refine vq_ret1 st (.inl rfl) Try.results19 (.tmp rfl) ?_
                                                  refine ⟨_, rfl, ?_⟩
                                                  refine ⟨?_, rfl⟩
                                                  rw [Value.bool.injEq, isSign_ref]
                                                  first
                                                  | (symm; simp only [decide_eq_true_eq]; simp only [*, true_or, or_true]; done)
                                                  | (symm; simp only [decide_eq_false_iff_not]; simp only [*, or_self, not_false_eq_true])
                                                · intro hc4
                                                  try simp only [decide_eq_true_eq, decide_eq_false_iff_not, Bool.not_eq_true', Bool.not_eq_false', Bool.not_eq_true, Bool.not_eq_false, Int.not_lt, Int.not_le, Nat.not_lt, Nat.not_le, Bool.not_true, Bool.not_false, Bool.true_eq_false, Bool.false_eq_true] at hc4
                                                  refine vc_code_skip ?_
                                                  refine vq_block ?_
                                                  refine vq_then ?_
                                                  refine vc_keep [] trivial ?_
                                                  refine vc_seq ?_
                                                  refine vc_region ?_
                                                  refine vc_y rfl rfl (y_as rfl) ?_
                                                  refine vc_end ?_
                                                  refine vq_then ?_
                                                  refine vc_keep [(2, _)] ⟨rfl, trivial⟩ ?_
                                                  refine vc_ret ?_
                                                  refine vq_ret1 st (.inl rfl) Try.results19 (.tmp rfl) ?_
                                                  refine ⟨_, rfl, ?_⟩
                                                  refine ⟨?_, rfl⟩
                                                  rw [Value.bool.injEq, isSign_ref]
                                                  first
                                                  | (symm; simp only [decide_eq_true_eq]; simp only [*, true_or, or_true]; done)
                                                  | (symm; simp only [decide_eq_false_iff_not]; simp only [*, or_self, not_false_eq_true])

def xText : List UInt8 := [120, 60, 60, 61, 49, 32, 47, 47, 32, 121, 10]
def aText : List UInt8 := [97, 32, 48, 49]
def whileText : List UInt8 := [119, 104, 105, 108, 101]
theorem scanRes_x : scanRes xText = ([⟨1, [120], 0, 0⟩, ⟨4, [60, 60], 0, 1⟩, ⟨4, [61], 0, 3⟩, ⟨3, [49], 1, 4⟩], 0, 0, 0) := by kernel_rfl
theorem scanRes_a : scanRes aText = ([], 20, 2, 3) := by kernel_rfl
theorem scan_x (w : World) : Ret Try.prog 21 [str xText] w fun v w' => Chg [] w w' ∧ ∃ b cap, v = .tuple [.slice (some ⟨b, 0, none⟩) 4 cap, .int .i64 0, .agg [.int .i64 0, .int .i64 0].toArray].toArray ∧
    w'.ownsRow w.heap.size 33 4 (.slice (some ⟨b, 0, none⟩) 4 cap) 4 (toksL [⟨1, [120], 0, 0⟩, ⟨4, [60, 60], 0, 1⟩, ⟨4, [61], 0, 3⟩, ⟨3, [49], 1, 4⟩]) :=
  (scan_any xText w).mono fun v w' ⟨c, oa, cap, hv, ho⟩ => by
    rw [scanRes_x] at hv ho
    obtain ⟨b, cap', e, _⟩ := own_form ho (by decide)
    simp only [Value.slice.injEq] at e
    obtain ⟨rfl, -, rfl⟩ := e
    exact ⟨c, b, cap, hv, ho⟩
theorem scan_a (w : World) : Ret Try.prog 21 [str aText] w fun v w' => Chg [] w w' ∧ ∃ oa cap, v = .tuple [.slice oa 0 cap, .int .i64 20, .agg [.int .i64 2, .int .i64 3].toArray].toArray :=
  (scan_any aText w).mono fun v w' ⟨c, oa, cap, hv, ho⟩ => by
    rw [scanRes_a] at hv
    exact ⟨c, oa, cap, hv⟩
theorem isWord_while : isWord whileText = true := by kernel_rfl
theorem isName_while : isName whileText = false := by kernel_rfl

set_option maxHeartbeats 2000000 in
theorem begins_any (w : World) : Ret Try.prog 20 [] w fun v w' => v = .bool true ∧ Chg [] w w' := by
  refine ret_of [] Try.func20 rfl Try.ntmps20 rfl ?_
  have st := St.init w []
  refine vc_seq ?_
  refine vc_region ?_
  refine vc_y rfl rfl (y_as rfl) ?_
  refine vc_end ?_
  refine vq_then ?_
  refine vc_keep [] trivial ?_
  refine vc_seq ?_
  refine vc_region ?_
  refine vc_e (e_call [_] rfl rfl Try.call21 rfl (scan_x _) ?_)
  rintro _ w ⟨cw, bx, cap, rfl, how⟩
  replace st := st.pushOwn cw how
  refine vc_y rfl rfl (y_mv rfl) ?_
  refine vc_y rfl rfl (y_ext rfl rfl) ?_
  refine vc_y rfl rfl (y_ext rfl rfl) ?_
  refine vc_y rfl rfl (y_ext rfl rfl) ?_
  refine vc_e (e_al (l := [_, _]) st rfl rfl Try.zeroValue27 rfl ?_)
  intro b3 w hb3 st
  refine vc_y rfl rfl (y_as rfl) ?_
  refine vc_y rfl rfl (y_as rfl) ?_
  first
  | refine vc_e (e_sts (vs := [_, _]) st 0 rfl rfl rfl rfl rfl Try.sizeOf27 rfl rfl (by first | (right; assumption) | (left; simp)) ?_)
  | refine vc_e (e_sts (vs := [_, _]) st 1 rfl rfl rfl rfl rfl Try.sizeOf27 rfl rfl (by first | (right; assumption) | (left; simp)) ?_)
  | refine vc_e (e_sts (vs := [_, _]) st 2 rfl rfl rfl rfl rfl Try.sizeOf27 rfl rfl (by first | (right; assumption) | (left; simp)) ?_)
  intro w st; dsimp only [setNth, wr] at st
  refine vc_end ?_
  refine vq_then ?_
  refine vc_keep [(1, _), (2, _)] ⟨rfl, rfl, trivial⟩ ?_
  refine vc_seq ?_
  refine vc_region ?_
  refine vc_e (e_call [_] rfl rfl Try.call21 rfl (scan_a _) ?_)
  rintro _ w ⟨cw, oaa, cap, rfl⟩
  replace st := st.call0 cw
  refine vc_y rfl rfl (y_mv rfl) ?_
  refine vc_y rfl rfl (y_ext rfl rfl) ?_
  refine vc_y rfl rfl (y_ext rfl rfl) ?_
  refine vc_y rfl rfl (y_ext rfl rfl) ?_
  refine vc_e (e_al (l := [_, _]) st rfl rfl Try.zeroValue27 rfl ?_)
  intro b6 w hb6 st
  refine vc_y rfl rfl (y_as rfl) ?_
  refine vc_y rfl rfl (y_as rfl) ?_
  first
  | refine vc_e (e_sts (vs := [_, _]) st 0 rfl rfl rfl rfl rfl Try.sizeOf27 rfl rfl (by first | (right; assumption) | (left; simp)) ?_)
  | refine vc_e (e_sts (vs := [_, _]) st 1 rfl rfl rfl rfl rfl Try.sizeOf27 rfl rfl (by first | (right; assumption) | (left; simp)) ?_)
  | refine vc_e (e_sts (vs := [_, _]) st 2 rfl rfl rfl rfl rfl Try.sizeOf27 rfl rfl (by first | (right; assumption) | (left; simp)) ?_)
  intro w st; dsimp only [setNth, wr] at st
  refine vc_end ?_
  refine vq_then ?_
  refine vc_keep [(1, _), (2, _), (5, _), (6, _)] ⟨rfl, rfl, rfl, rfl, trivial⟩ ?_
  refine vc_seq ?_
  refine vc_region ?_
  refine vc_y rfl rfl (y_mv rfl) ?_
  refine vc_y rfl rfl (y_eqi rfl rfl) ?_
  refine vc_e (e_mvb rfl rfl rfl ?_ ?_)
  · intro hg19
    try simp only [decide_eq_true_eq, decide_eq_false_iff_not, Bool.not_eq_true', Bool.not_eq_false', Bool.not_eq_true, Bool.not_eq_false, Int.not_lt, Int.not_le, Nat.not_lt, Nat.not_le, Bool.not_true, Bool.not_false, Bool.true_eq_false, Bool.false_eq_true] at hg19
    refine vc_y rfl rfl (y_mv rfl) ?_
    refine vc_y rfl rfl (y_lensl rfl Try.underlying24) ?_
    refine vc_y rfl rfl (y_eqi rfl rfl) ?_
    refine vc_y rfl rfl (y_pickt rfl rfl) ?_
    refine vc_e (e_mvb rfl rfl rfl ?_ ?_)
    · intro hg24
      try simp only [decide_eq_true_eq, decide_eq_false_iff_not, Bool.not_eq_true', Bool.not_eq_false', Bool.not_eq_true, Bool.not_eq_false, Int.not_lt, Int.not_le, Nat.not_lt, Nat.not_le, Bool.not_true, Bool.not_false, Bool.true_eq_false, Bool.false_eq_true] at hg24
      refine vc_y rfl rfl (y_mv rfl) ?_
      refine vc_y rfl rfl ((by first | exact y_ia0 (k := 1) rfl rfl Try.underlying24 Try.sizeOf33 rfl (by omega) | exact y_ia (k := 1) rfl rfl Try.underlying24 Try.sizeOf33 rfl (by omega))) ?_
      refine vc_y rfl rfl ((by first | exact y_faz (k := 1) rfl Try.underlying33 rfl rfl Try.sizeOf9 rfl | exact y_fa (k := 1) rfl Try.underlying33 rfl rfl Try.sizeOf9 rfl)) ?_
      refine vc_y rfl rfl ((by first | exact y_ldo st 2 rfl Try.isAgg9 rfl rfl | exact y_ld st 0 rfl Try.isAgg9 rfl rfl | exact y_ld st 1 rfl Try.isAgg9 rfl rfl | exact y_ld st 2 rfl Try.isAgg9 rfl rfl)) ?_
      refine vc_y rfl rfl (y_eqs rfl rfl) ?_
      refine vc_y rfl rfl (y_pickt rfl rfl) ?_
      refine vc_e (e_mvb rfl rfl rfl ?_ ?_)
      · intro hg31
        try simp only [decide_eq_true_eq, decide_eq_false_iff_not, Bool.not_eq_true', Bool.not_eq_false', Bool.not_eq_true, Bool.not_eq_false, Int.not_lt, Int.not_le, Nat.not_lt, Nat.not_le, Bool.not_true, Bool.not_false, Bool.true_eq_false, Bool.false_eq_true] at hg31
        refine vc_y rfl rfl (y_mv rfl) ?_
        refine vc_y rfl rfl ((by first | exact y_ia0 (k := 3) rfl rfl Try.underlying24 Try.sizeOf33 rfl (by omega) | exact y_ia (k := 3) rfl rfl Try.underlying24 Try.sizeOf33 rfl (by omega))) ?_
        refine vc_y rfl rfl ((by first | exact y_faz (k := 2) rfl Try.underlying33 rfl rfl Try.sizeOf2 rfl | exact y_fa (k := 2) rfl Try.underlying33 rfl rfl Try.sizeOf2 rfl)) ?_
        refine vc_y rfl rfl ((by first | exact y_ldo st 2 rfl Try.isAgg2 rfl rfl | exact y_ld st 0 rfl Try.isAgg2 rfl rfl | exact y_ld st 1 rfl Try.isAgg2 rfl rfl | exact y_ld st 2 rfl Try.isAgg2 rfl rfl)) ?_
        refine vc_y rfl rfl (y_eqi rfl rfl) ?_
        refine vc_y rfl rfl (y_pickt rfl rfl) ?_
        refine vc_e (e_mvb rfl rfl rfl ?_ ?_)
        · intro hg38
          try simp only [decide_eq_true_eq, decide_eq_false_iff_not, Bool.not_eq_true', Bool.not_eq_false', Bool.not_eq_true, Bool.not_eq_false, Int.not_lt, Int.not_le, Nat.not_lt, Nat.not_le, Bool.not_true, Bool.not_false, Bool.true_eq_false, Bool.false_eq_true] at hg38
          refine vc_y rfl rfl (y_mv rfl) ?_
          refine vc_y rfl rfl ((by first | exact y_ia0 (k := 3) rfl rfl Try.underlying24 Try.sizeOf33 rfl (by omega) | exact y_ia (k := 3) rfl rfl Try.underlying24 Try.sizeOf33 rfl (by omega))) ?_
          refine vc_y rfl rfl ((by first | exact y_faz (k := 3) rfl Try.underlying33 rfl rfl Try.sizeOf3 rfl | exact y_fa (k := 3) rfl Try.underlying33 rfl rfl Try.sizeOf3 rfl)) ?_
          refine vc_y rfl rfl ((by first | exact y_ldo st 2 rfl Try.isAgg3 rfl rfl | exact y_ld st 0 rfl Try.isAgg3 rfl rfl | exact y_ld st 1 rfl Try.isAgg3 rfl rfl | exact y_ld st 2 rfl Try.isAgg3 rfl rfl)) ?_
          refine vc_y rfl rfl (y_eqi rfl rfl) ?_
          refine vc_y rfl rfl (y_pickt rfl rfl) ?_
          refine vc_e (e_mvb rfl rfl rfl ?_ ?_)
          · intro hg45
            try simp only [decide_eq_true_eq, decide_eq_false_iff_not, Bool.not_eq_true', Bool.not_eq_false', Bool.not_eq_true, Bool.not_eq_false, Int.not_lt, Int.not_le, Nat.not_lt, Nat.not_le, Bool.not_true, Bool.not_false, Bool.true_eq_false, Bool.false_eq_true] at hg45
            refine vc_y rfl rfl (y_mv rfl) ?_
            refine vc_y rfl rfl (y_eqi rfl rfl) ?_
            refine vc_y rfl rfl (y_pickt rfl rfl) ?_
            refine vc_e (e_mvb rfl rfl rfl ?_ ?_)
            · intro hg49
              try simp only [decide_eq_true_eq, decide_eq_false_iff_not, Bool.not_eq_true', Bool.not_eq_false', Bool.not_eq_true, Bool.not_eq_false, Int.not_lt, Int.not_le, Nat.not_lt, Nat.not_le, Bool.not_true, Bool.not_false, Bool.true_eq_false, Bool.false_eq_true] at hg49
              refine vc_y rfl rfl ((by first | exact y_lda (vs := [_, _]) st 0 rfl Try.isAgg27 Try.sizeOf27 rfl rfl | exact y_lda (vs := [_, _]) st 1 rfl Try.isAgg27 Try.sizeOf27 rfl rfl | exact y_lda (vs := [_, _]) st 2 rfl Try.isAgg27 Try.sizeOf27 rfl rfl)) ?_
              refine vc_y rfl rfl (y_bld (.agg #[_, _]) [(0, _), (1, _)] rfl (fun w => by simp [Instr.build, go_sem] <;> repeat' constructor)) ?_
              refine vc_y rfl rfl (y_bo (r := .bool true) rfl rfl (by simp [go_sem])) ?_
              refine vc_y rfl rfl (y_pickt rfl rfl) ?_
              refine vc_e (e_mvb rfl rfl rfl ?_ ?_)
              · intro hg54
                try simp only [decide_eq_true_eq, decide_eq_false_iff_not, Bool.not_eq_true', Bool.not_eq_false', Bool.not_eq_true, Bool.not_eq_false, Int.not_lt, Int.not_le, Nat.not_lt, Nat.not_le, Bool.not_true, Bool.not_false, Bool.true_eq_false, Bool.false_eq_true] at hg54
                refine vc_e (e_call [_] rfl rfl Try.call16 rfl (word_any whileText _) ?_)
                rintro _ _ ⟨rfl, rfl⟩
                refine vc_y rfl rfl (y_pickt rfl rfl) ?_
                refine vc_e (e_mvb rfl rfl rfl ?_ ?_)
                · intro hg57
                  try simp only [decide_eq_true_eq, decide_eq_false_iff_not, Bool.not_eq_true', Bool.not_eq_false', Bool.not_eq_true, Bool.not_eq_false, Int.not_lt, Int.not_le, Nat.not_lt, Nat.not_le, Bool.not_true, Bool.not_false, Bool.true_eq_false, Bool.false_eq_true] at hg57
                  refine vc_e (e_call [_] rfl rfl Try.call14 rfl (name_any whileText _) ?_)
                  rintro _ _ ⟨rfl, rfl⟩
                  refine vc_y rfl rfl (y_not rfl) ?_
                  refine vc_y rfl rfl (y_pickt rfl rfl) ?_
                  refine vc_y rfl rfl (y_as rfl) ?_
                  refine vc_end ?_
                  refine vq_then ?_
                  refine vc_keep [(0, _)] ⟨rfl, trivial⟩ ?_
                  refine vc_ret ?_
                  refine vq_ret1 st (.inl rfl) Try.results20 (.tmp rfl) ?_
                  refine ⟨_, rfl, ?_⟩
                  refine ⟨?_, st.chg⟩
                  simp [isName_while, isWord_while]
                · intro hg57
                  (exfalso; simp [isWord_while, isName_while] at hg57)
              · intro hg54
                (exfalso; simp [isWord_while, isName_while] at hg54)
            · intro hg49
              (exfalso; simp [isWord_while, isName_while] at hg49)
          · intro hg45
            (exfalso; simp [isWord_while, isName_while] at hg45)
        · intro hg38
          (exfalso; simp [isWord_while, isName_while] at hg38)
      · intro hg31
        (exfalso; simp [isWord_while, isName_while] at hg31)
    · intro hg24
      (exfalso; simp [isWord_while, isName_while] at hg24)
  · intro hg19
    (exfalso; simp [isWord_while, isName_while] at hg19)

end Go.Proofs.Ytakepmhgmgpkkaa
