/- A part of the proof: contracts of functions and plain laws; each theorem says its own conditions. -/
import Derived.Test.YtakepmhgmgpkkaaRows
import Derived.Test.YtakepmhgmgpkkaaSxDraw
import Derived.Test.YtakepmhgmgpkkaaSpec
namespace Go.Proofs.Ytakepmhgmgpkkaa
open Go.RowKit Sx LexS
set_option linter.unusedVariables false
set_option linter.unusedSimpArgs false
theorem Try.mixed : Try.prog.follows .mixedOrders = true := by kernel_rfl

theorem digit_any (c : UInt8) (w : World) : Ret Try.prog 30 [.int .u8 (c.toNat : Int)] w fun v w' => v = .bool (isDigit c) ∧ w' = w := by
  refine ret_of [_] Try.func30 rfl Try.ntmps30 rfl ?_
  have st := St.init w []
  refine vc_seq ?_
  refine vc_region ?_
  refine vc_y rfl rfl (y_as rfl) ?_
  refine vc_end ?_
  refine vq_then ?_
  refine vc_keep [(0, _)] ⟨rfl, trivial⟩ ?_
  refine vc_seq ?_
  refine vc_region ?_
  refine vc_y rfl rfl (y_mv rfl) ?_
  refine vc_y rfl rfl (y_geq rfl rfl) ?_
  refine vc_e (e_mvb rfl rfl rfl ?_ ?_)
  · intro hg5
    try simp only [decide_eq_true_eq, decide_eq_false_iff_not, Bool.not_eq_true', Bool.not_eq_false', Bool.not_eq_true, Bool.not_eq_false, Int.not_lt, Int.not_le, Nat.not_lt, Nat.not_le, Bool.not_true, Bool.not_false, Bool.true_eq_false, Bool.false_eq_true] at hg5
    refine vc_y rfl rfl (y_mv rfl) ?_
    refine vc_y rfl rfl (y_leq rfl rfl) ?_
    refine vc_y rfl rfl (y_pickt rfl rfl) ?_
    refine vc_y rfl rfl (y_as rfl) ?_
    refine vc_end ?_
    refine vq_then ?_
    refine vc_keep [(2, _)] ⟨rfl, trivial⟩ ?_
    refine vc_ret ?_
    refine vq_ret1 st (.inl rfl) Try.results30 (.tmp rfl) ?_
    refine ⟨_, rfl, ?_⟩
    exact ⟨by rw [Value.bool.injEq, Bool.eq_iff_iff]; simp only [isDigit, decide_eq_true_eq, true_iff, Bool.false_eq_true, false_iff]; omega, rfl⟩
  · intro hg5
    try simp only [decide_eq_true_eq, decide_eq_false_iff_not, Bool.not_eq_true', Bool.not_eq_false', Bool.not_eq_true, Bool.not_eq_false, Int.not_lt, Int.not_le, Nat.not_lt, Nat.not_le, Bool.not_true, Bool.not_false, Bool.true_eq_false, Bool.false_eq_true] at hg5
    refine vc_e (e_skip rfl rfl ?_)
    refine vc_e (e_skip rfl rfl ?_)
    refine vc_y rfl rfl (y_pickf rfl rfl) ?_
    refine vc_y rfl rfl (y_as rfl) ?_
    refine vc_end ?_
    refine vq_then ?_
    refine vc_keep [(2, _)] ⟨rfl, trivial⟩ ?_
    refine vc_ret ?_
    refine vq_ret1 st (.inl rfl) Try.results30 (.tmp rfl) ?_
    refine ⟨_, rfl, ?_⟩
    exact ⟨by rw [Value.bool.injEq, Bool.eq_iff_iff]; simp only [isDigit, decide_eq_true_eq, true_iff, Bool.false_eq_true, false_iff]; omega, rfl⟩

theorem letter_any (c : UInt8) (w : World) : Ret Try.prog 31 [.int .u8 (c.toNat : Int)] w fun v w' => v = .bool (isLetter c) ∧ w' = w := by
  refine ret_of [_] Try.func31 rfl Try.ntmps31 rfl ?_
  have st := St.init w []
  refine vc_seq ?_
  refine vc_region ?_
  refine vc_y rfl rfl (y_as rfl) ?_
  refine vc_end ?_
  refine vq_then ?_
  refine vc_keep [(0, _)] ⟨rfl, trivial⟩ ?_
  refine vc_seq ?_
  refine vc_region ?_
  refine vc_y rfl rfl (y_mv rfl) ?_
  refine vc_y rfl rfl (y_geq rfl rfl) ?_
  refine vc_e (e_mvb rfl rfl rfl ?_ ?_)
  · intro hg5
    try simp only [decide_eq_true_eq, decide_eq_false_iff_not, Bool.not_eq_true', Bool.not_eq_false', Bool.not_eq_true, Bool.not_eq_false, Int.not_lt, Int.not_le, Nat.not_lt, Nat.not_le, Bool.not_true, Bool.not_false, Bool.true_eq_false, Bool.false_eq_true] at hg5
    refine vc_y rfl rfl (y_mv rfl) ?_
    refine vc_y rfl rfl (y_leq rfl rfl) ?_
    refine vc_y rfl rfl (y_pickt rfl rfl) ?_
    refine vc_e (e_mvb rfl rfl rfl ?_ ?_)
    · intro hg9
      try simp only [decide_eq_true_eq, decide_eq_false_iff_not, Bool.not_eq_true', Bool.not_eq_false', Bool.not_eq_true, Bool.not_eq_false, Int.not_lt, Int.not_le, Nat.not_lt, Nat.not_le, Bool.not_true, Bool.not_false, Bool.true_eq_false, Bool.false_eq_true] at hg9
      refine vc_e (e_skip rfl rfl ?_)
      refine vc_e (e_skip rfl rfl ?_)
      refine vc_e (e_skip rfl rfl ?_)
      refine vc_e (e_skip rfl rfl ?_)
      refine vc_e (e_skip rfl rfl ?_)
      refine vc_e (e_skip rfl rfl ?_)
      refine vc_y rfl rfl (y_pickt rfl rfl) ?_
      refine vc_y rfl rfl (y_mv rfl) ?_
      refine vc_e (e_skip rfl rfl ?_)
      refine vc_e (e_skip rfl rfl ?_)
      refine vc_y rfl rfl (y_pickt rfl rfl) ?_
      refine vc_y rfl rfl (y_as rfl) ?_
      refine vc_end ?_
      refine vq_then ?_
      refine vc_keep [(2, _)] ⟨rfl, trivial⟩ ?_
      refine vc_ret ?_
      refine vq_ret1 st (.inl rfl) Try.results31 (.tmp rfl) ?_
      refine ⟨_, rfl, ?_⟩
      exact ⟨by rw [Value.bool.injEq, Bool.eq_iff_iff]; simp only [isLetter, decide_eq_true_eq, true_iff, Bool.false_eq_true, false_iff]; omega, rfl⟩
    · intro hg9
      try simp only [decide_eq_true_eq, decide_eq_false_iff_not, Bool.not_eq_true', Bool.not_eq_false', Bool.not_eq_true, Bool.not_eq_false, Int.not_lt, Int.not_le, Nat.not_lt, Nat.not_le, Bool.not_true, Bool.not_false, Bool.true_eq_false, Bool.false_eq_true] at hg9
      refine vc_y rfl rfl (y_mv rfl) ?_
      refine vc_y rfl rfl (y_geq rfl rfl) ?_
      refine vc_e (e_mvb rfl rfl rfl ?_ ?_)
      · intro hg12
        try simp only [decide_eq_true_eq, decide_eq_false_iff_not, Bool.not_eq_true', Bool.not_eq_false', Bool.not_eq_true, Bool.not_eq_false, Int.not_lt, Int.not_le, Nat.not_lt, Nat.not_le, Bool.not_true, Bool.not_false, Bool.true_eq_false, Bool.false_eq_true] at hg12
        refine vc_y rfl rfl (y_mv rfl) ?_
        refine vc_y rfl rfl (y_leq rfl rfl) ?_
        refine vc_y rfl rfl (y_pickt rfl rfl) ?_
        refine vc_y rfl rfl (y_pickf rfl rfl) ?_
        refine vc_e (e_mvb rfl rfl rfl ?_ ?_)
        · intro hg17
          try simp only [decide_eq_true_eq, decide_eq_false_iff_not, Bool.not_eq_true', Bool.not_eq_false', Bool.not_eq_true, Bool.not_eq_false, Int.not_lt, Int.not_le, Nat.not_lt, Nat.not_le, Bool.not_true, Bool.not_false, Bool.true_eq_false, Bool.false_eq_true] at hg17
          refine vc_e (e_skip rfl rfl ?_)
          refine vc_e (e_skip rfl rfl ?_)
          refine vc_y rfl rfl (y_pickt rfl rfl) ?_
          refine vc_y rfl rfl (y_as rfl) ?_
          refine vc_end ?_
          refine vq_then ?_
          refine vc_keep [(2, _)] ⟨rfl, trivial⟩ ?_
          refine vc_ret ?_
          refine vq_ret1 st (.inl rfl) Try.results31 (.tmp rfl) ?_
          refine ⟨_, rfl, ?_⟩
          exact ⟨by rw [Value.bool.injEq, Bool.eq_iff_iff]; simp only [isLetter, decide_eq_true_eq, true_iff, Bool.false_eq_true, false_iff]; omega, rfl⟩
        · intro hg17
          try simp only [decide_eq_true_eq, decide_eq_false_iff_not, Bool.not_eq_true', Bool.not_eq_false', Bool.not_eq_true, Bool.not_eq_false, Int.not_lt, Int.not_le, Nat.not_lt, Nat.not_le, Bool.not_true, Bool.not_false, Bool.true_eq_false, Bool.false_eq_true] at hg17
          refine vc_y rfl rfl (y_mv rfl) ?_
          refine vc_y rfl rfl (y_eqi rfl rfl) ?_
          refine vc_y rfl rfl (y_pickf rfl rfl) ?_
          refine vc_y rfl rfl (y_as rfl) ?_
          refine vc_end ?_
          refine vq_then ?_
          refine vc_keep [(2, _)] ⟨rfl, trivial⟩ ?_
          refine vc_ret ?_
          refine vq_ret1 st (.inl rfl) Try.results31 (.tmp rfl) ?_
          refine ⟨_, rfl, ?_⟩
          exact ⟨by rw [Value.bool.injEq, Bool.eq_iff_iff]; simp only [isLetter, decide_eq_true_eq, true_iff, Bool.false_eq_true, false_iff]; omega, rfl⟩
      · intro hg12
        try simp only [decide_eq_true_eq, decide_eq_false_iff_not, Bool.not_eq_true', Bool.not_eq_false', Bool.not_eq_true, Bool.not_eq_false, Int.not_lt, Int.not_le, Nat.not_lt, Nat.not_le, Bool.not_true, Bool.not_false, Bool.true_eq_false, Bool.false_eq_true] at hg12
        refine vc_e (e_skip rfl rfl ?_)
        refine vc_e (e_skip rfl rfl ?_)
        refine vc_y rfl rfl (y_pickf rfl rfl) ?_
        refine vc_y rfl rfl (y_pickf rfl rfl) ?_
        refine vc_y rfl rfl (y_mv rfl) ?_
        refine vc_y rfl rfl (y_mv rfl) ?_
        refine vc_y rfl rfl (y_eqi rfl rfl) ?_
        refine vc_y rfl rfl (y_pickf rfl rfl) ?_
        refine vc_y rfl rfl (y_as rfl) ?_
        refine vc_end ?_
        refine vq_then ?_
        refine vc_keep [(2, _)] ⟨rfl, trivial⟩ ?_
        refine vc_ret ?_
        refine vq_ret1 st (.inl rfl) Try.results31 (.tmp rfl) ?_
        refine ⟨_, rfl, ?_⟩
        exact ⟨by rw [Value.bool.injEq, Bool.eq_iff_iff]; simp only [isLetter, decide_eq_true_eq, true_iff, Bool.false_eq_true, false_iff]; omega, rfl⟩
  · intro hg5
    try simp only [decide_eq_true_eq, decide_eq_false_iff_not, Bool.not_eq_true', Bool.not_eq_false', Bool.not_eq_true, Bool.not_eq_false, Int.not_lt, Int.not_le, Nat.not_lt, Nat.not_le, Bool.not_true, Bool.not_false, Bool.true_eq_false, Bool.false_eq_true] at hg5
    refine vc_e (e_skip rfl rfl ?_)
    refine vc_e (e_skip rfl rfl ?_)
    refine vc_y rfl rfl (y_pickf rfl rfl) ?_
    refine vc_y rfl rfl (y_mv rfl) ?_
    refine vc_y rfl rfl (y_mv rfl) ?_
    refine vc_y rfl rfl (y_geq rfl rfl) ?_
    refine vc_e (e_mvb rfl rfl rfl ?_ ?_)
    · intro hg12
      try simp only [decide_eq_true_eq, decide_eq_false_iff_not, Bool.not_eq_true', Bool.not_eq_false', Bool.not_eq_true, Bool.not_eq_false, Int.not_lt, Int.not_le, Nat.not_lt, Nat.not_le, Bool.not_true, Bool.not_false, Bool.true_eq_false, Bool.false_eq_true] at hg12
      refine vc_y rfl rfl (y_mv rfl) ?_
      refine vc_y rfl rfl (y_leq rfl rfl) ?_
      refine vc_y rfl rfl (y_pickt rfl rfl) ?_
      refine vc_y rfl rfl (y_pickf rfl rfl) ?_
      refine vc_e (e_mvb rfl rfl rfl ?_ ?_)
      · intro hg17
        try simp only [decide_eq_true_eq, decide_eq_false_iff_not, Bool.not_eq_true', Bool.not_eq_false', Bool.not_eq_true, Bool.not_eq_false, Int.not_lt, Int.not_le, Nat.not_lt, Nat.not_le, Bool.not_true, Bool.not_false, Bool.true_eq_false, Bool.false_eq_true] at hg17
        refine vc_e (e_skip rfl rfl ?_)
        refine vc_e (e_skip rfl rfl ?_)
        refine vc_y rfl rfl (y_pickt rfl rfl) ?_
        refine vc_y rfl rfl (y_as rfl) ?_
        refine vc_end ?_
        refine vq_then ?_
        refine vc_keep [(2, _)] ⟨rfl, trivial⟩ ?_
        refine vc_ret ?_
        refine vq_ret1 st (.inl rfl) Try.results31 (.tmp rfl) ?_
        refine ⟨_, rfl, ?_⟩
        exact ⟨by rw [Value.bool.injEq, Bool.eq_iff_iff]; simp only [isLetter, decide_eq_true_eq, true_iff, Bool.false_eq_true, false_iff]; omega, rfl⟩
      · intro hg17
        try simp only [decide_eq_true_eq, decide_eq_false_iff_not, Bool.not_eq_true', Bool.not_eq_false', Bool.not_eq_true, Bool.not_eq_false, Int.not_lt, Int.not_le, Nat.not_lt, Nat.not_le, Bool.not_true, Bool.not_false, Bool.true_eq_false, Bool.false_eq_true] at hg17
        refine vc_y rfl rfl (y_mv rfl) ?_
        refine vc_y rfl rfl (y_eqi rfl rfl) ?_
        refine vc_y rfl rfl (y_pickf rfl rfl) ?_
        refine vc_y rfl rfl (y_as rfl) ?_
        refine vc_end ?_
        refine vq_then ?_
        refine vc_keep [(2, _)] ⟨rfl, trivial⟩ ?_
        refine vc_ret ?_
        refine vq_ret1 st (.inl rfl) Try.results31 (.tmp rfl) ?_
        refine ⟨_, rfl, ?_⟩
        exact ⟨by rw [Value.bool.injEq, Bool.eq_iff_iff]; simp only [isLetter, decide_eq_true_eq, true_iff, Bool.false_eq_true, false_iff]; omega, rfl⟩
    · intro hg12
      try simp only [decide_eq_true_eq, decide_eq_false_iff_not, Bool.not_eq_true', Bool.not_eq_false', Bool.not_eq_true, Bool.not_eq_false, Int.not_lt, Int.not_le, Nat.not_lt, Nat.not_le, Bool.not_true, Bool.not_false, Bool.true_eq_false, Bool.false_eq_true] at hg12
      refine vc_e (e_skip rfl rfl ?_)
      refine vc_e (e_skip rfl rfl ?_)
      refine vc_y rfl rfl (y_pickf rfl rfl) ?_
      refine vc_y rfl rfl (y_pickf rfl rfl) ?_
      refine vc_y rfl rfl (y_mv rfl) ?_
      refine vc_y rfl rfl (y_mv rfl) ?_
      refine vc_y rfl rfl (y_eqi rfl rfl) ?_
      refine vc_y rfl rfl (y_pickf rfl rfl) ?_
      refine vc_y rfl rfl (y_as rfl) ?_
      refine vc_end ?_
      refine vq_then ?_
      refine vc_keep [(2, _)] ⟨rfl, trivial⟩ ?_
      refine vc_ret ?_
      refine vq_ret1 st (.inl rfl) Try.results31 (.tmp rfl) ?_
      refine ⟨_, rfl, ?_⟩
      exact ⟨by rw [Value.bool.injEq, Bool.eq_iff_iff]; simp only [isLetter, decide_eq_true_eq, true_iff, Bool.false_eq_true, false_iff]; omega, rfl⟩

theorem blank_any (c : UInt8) (w : World) : Ret Try.prog 56 [.int .u8 (c.toNat : Int)] w fun v w' => v = .bool (isBlank c) ∧ w' = w := by
  refine ret_of [_] Try.func56 rfl Try.ntmps56 rfl ?_
  have st := St.init w []
  refine vc_seq ?_
  refine vc_region ?_
  refine vc_y rfl rfl (y_as rfl) ?_
  refine vc_end ?_
  refine vq_then ?_
  refine vc_keep [(0, _)] ⟨rfl, trivial⟩ ?_
  refine vc_seq ?_
  refine vc_region ?_
  refine vc_y rfl rfl (y_mv rfl) ?_
  refine vc_y rfl rfl (y_eqi rfl rfl) ?_
  refine vc_e (e_mvb rfl rfl rfl ?_ ?_)
  · intro hg5
    try simp only [decide_eq_true_eq, decide_eq_false_iff_not, Bool.not_eq_true', Bool.not_eq_false', Bool.not_eq_true, Bool.not_eq_false, Int.not_lt, Int.not_le, Nat.not_lt, Nat.not_le, Bool.not_true, Bool.not_false, Bool.true_eq_false, Bool.false_eq_true] at hg5
    refine vc_e (e_skip rfl rfl ?_)
    refine vc_e (e_skip rfl rfl ?_)
    refine vc_y rfl rfl (y_pickt rfl rfl) ?_
    refine vc_y rfl rfl (y_mv rfl) ?_
    refine vc_e (e_skip rfl rfl ?_)
    refine vc_e (e_skip rfl rfl ?_)
    refine vc_y rfl rfl (y_pickt rfl rfl) ?_
    refine vc_y rfl rfl (y_mv rfl) ?_
    refine vc_e (e_skip rfl rfl ?_)
    refine vc_e (e_skip rfl rfl ?_)
    refine vc_y rfl rfl (y_pickt rfl rfl) ?_
    refine vc_y rfl rfl (y_as rfl) ?_
    refine vc_end ?_
    refine vq_then ?_
    refine vc_keep [(2, _)] ⟨rfl, trivial⟩ ?_
    refine vc_ret ?_
    refine vq_ret1 st (.inl rfl) Try.results56 (.tmp rfl) ?_
    refine ⟨_, rfl, ?_⟩
    exact ⟨by rw [Value.bool.injEq, Bool.eq_iff_iff]; simp only [isBlank, decide_eq_true_eq, true_iff, Bool.false_eq_true, false_iff]; omega, rfl⟩
  · intro hg5
    try simp only [decide_eq_true_eq, decide_eq_false_iff_not, Bool.not_eq_true', Bool.not_eq_false', Bool.not_eq_true, Bool.not_eq_false, Int.not_lt, Int.not_le, Nat.not_lt, Nat.not_le, Bool.not_true, Bool.not_false, Bool.true_eq_false, Bool.false_eq_true] at hg5
    refine vc_y rfl rfl (y_mv rfl) ?_
    refine vc_y rfl rfl (y_eqi rfl rfl) ?_
    refine vc_y rfl rfl (y_pickf rfl rfl) ?_
    refine vc_e (e_mvb rfl rfl rfl ?_ ?_)
    · intro hg9
      try simp only [decide_eq_true_eq, decide_eq_false_iff_not, Bool.not_eq_true', Bool.not_eq_false', Bool.not_eq_true, Bool.not_eq_false, Int.not_lt, Int.not_le, Nat.not_lt, Nat.not_le, Bool.not_true, Bool.not_false, Bool.true_eq_false, Bool.false_eq_true] at hg9
      refine vc_e (e_skip rfl rfl ?_)
      refine vc_e (e_skip rfl rfl ?_)
      refine vc_y rfl rfl (y_pickt rfl rfl) ?_
      refine vc_y rfl rfl (y_mv rfl) ?_
      refine vc_e (e_skip rfl rfl ?_)
      refine vc_e (e_skip rfl rfl ?_)
      refine vc_y rfl rfl (y_pickt rfl rfl) ?_
      refine vc_y rfl rfl (y_as rfl) ?_
      refine vc_end ?_
      refine vq_then ?_
      refine vc_keep [(2, _)] ⟨rfl, trivial⟩ ?_
      refine vc_ret ?_
      refine vq_ret1 st (.inl rfl) Try.results56 (.tmp rfl) ?_
      refine ⟨_, rfl, ?_⟩
      exact ⟨by rw [Value.bool.injEq, Bool.eq_iff_iff]; simp only [isBlank, decide_eq_true_eq, true_iff, Bool.false_eq_true, false_iff]; omega, rfl⟩
    · intro hg9
      try simp only [decide_eq_true_eq, decide_eq_false_iff_not, Bool.not_eq_true', Bool.not_eq_false', Bool.not_eq_true, Bool.not_eq_false, Int.not_lt, Int.not_le, Nat.not_lt, Nat.not_le, Bool.not_true, Bool.not_false, Bool.true_eq_false, Bool.false_eq_true] at hg9
      refine vc_y rfl rfl (y_mv rfl) ?_
      refine vc_y rfl rfl (y_eqi rfl rfl) ?_
      refine vc_y rfl rfl (y_pickf rfl rfl) ?_
      refine vc_e (e_mvb rfl rfl rfl ?_ ?_)
      · intro hg13
        try simp only [decide_eq_true_eq, decide_eq_false_iff_not, Bool.not_eq_true', Bool.not_eq_false', Bool.not_eq_true, Bool.not_eq_false, Int.not_lt, Int.not_le, Nat.not_lt, Nat.not_le, Bool.not_true, Bool.not_false, Bool.true_eq_false, Bool.false_eq_true] at hg13
        refine vc_e (e_skip rfl rfl ?_)
        refine vc_e (e_skip rfl rfl ?_)
        refine vc_y rfl rfl (y_pickt rfl rfl) ?_
        refine vc_y rfl rfl (y_as rfl) ?_
        refine vc_end ?_
        refine vq_then ?_
        refine vc_keep [(2, _)] ⟨rfl, trivial⟩ ?_
        refine vc_ret ?_
        refine vq_ret1 st (.inl rfl) Try.results56 (.tmp rfl) ?_
        refine ⟨_, rfl, ?_⟩
        exact ⟨by rw [Value.bool.injEq, Bool.eq_iff_iff]; simp only [isBlank, decide_eq_true_eq, true_iff, Bool.false_eq_true, false_iff]; omega, rfl⟩
      · intro hg13
        try simp only [decide_eq_true_eq, decide_eq_false_iff_not, Bool.not_eq_true', Bool.not_eq_false', Bool.not_eq_true, Bool.not_eq_false, Int.not_lt, Int.not_le, Nat.not_lt, Nat.not_le, Bool.not_true, Bool.not_false, Bool.true_eq_false, Bool.false_eq_true] at hg13
        refine vc_y rfl rfl (y_mv rfl) ?_
        refine vc_y rfl rfl (y_eqi rfl rfl) ?_
        refine vc_y rfl rfl (y_pickf rfl rfl) ?_
        refine vc_y rfl rfl (y_as rfl) ?_
        refine vc_end ?_
        refine vq_then ?_
        refine vc_keep [(2, _)] ⟨rfl, trivial⟩ ?_
        refine vc_ret ?_
        refine vq_ret1 st (.inl rfl) Try.results56 (.tmp rfl) ?_
        refine ⟨_, rfl, ?_⟩
        exact ⟨by rw [Value.bool.injEq, Bool.eq_iff_iff]; simp only [isBlank, decide_eq_true_eq, true_iff, Bool.false_eq_true, false_iff]; omega, rfl⟩

theorem rdigit_any (c : UInt8) (w : World) : Ret Try.prog 32 [.int .u8 (c.toNat : Int)] w fun v w' => v = .bool (isDigit c) ∧ w' = w := by
  refine ret_of [_] Try.func32 rfl Try.ntmps32 rfl ?_
  have st := St.init w []
  refine vc_seq ?_
  refine vc_region ?_
  refine vc_y rfl rfl (y_as rfl) ?_
  refine vc_end ?_
  refine vq_then ?_
  refine vc_keep [(0, _)] ⟨rfl, trivial⟩ ?_
  refine vc_seq ?_
  refine vc_region ?_
  refine vc_y rfl rfl (y_mv rfl) ?_
  refine vc_y rfl rfl (y_geq rfl rfl) ?_
  refine vc_e (e_mvb rfl rfl rfl ?_ ?_)
  · intro hg5
    try simp only [decide_eq_true_eq, decide_eq_false_iff_not, Bool.not_eq_true', Bool.not_eq_false', Bool.not_eq_true, Bool.not_eq_false, Int.not_lt, Int.not_le, Nat.not_lt, Nat.not_le, Bool.not_true, Bool.not_false, Bool.true_eq_false, Bool.false_eq_true] at hg5
    refine vc_y rfl rfl (y_mv rfl) ?_
    refine vc_y rfl rfl (y_leq rfl rfl) ?_
    refine vc_y rfl rfl (y_pickt rfl rfl) ?_
    refine vc_y rfl rfl (y_as rfl) ?_
    refine vc_end ?_
    refine vq_then ?_
    refine vc_keep [(2, _)] ⟨rfl, trivial⟩ ?_
    refine vc_ret ?_
    refine vq_ret1 st (.inl rfl) Try.results32 (.tmp rfl) ?_
    refine ⟨_, rfl, ?_⟩
    exact ⟨by rw [Value.bool.injEq, Bool.eq_iff_iff]; simp only [isDigit, decide_eq_true_eq, true_iff, Bool.false_eq_true, false_iff]; omega, rfl⟩
  · intro hg5
    try simp only [decide_eq_true_eq, decide_eq_false_iff_not, Bool.not_eq_true', Bool.not_eq_false', Bool.not_eq_true, Bool.not_eq_false, Int.not_lt, Int.not_le, Nat.not_lt, Nat.not_le, Bool.not_true, Bool.not_false, Bool.true_eq_false, Bool.false_eq_true] at hg5
    refine vc_e (e_skip rfl rfl ?_)
    refine vc_e (e_skip rfl rfl ?_)
    refine vc_y rfl rfl (y_pickf rfl rfl) ?_
    refine vc_y rfl rfl (y_as rfl) ?_
    refine vc_end ?_
    refine vq_then ?_
    refine vc_keep [(2, _)] ⟨rfl, trivial⟩ ?_
    refine vc_ret ?_
    refine vq_ret1 st (.inl rfl) Try.results32 (.tmp rfl) ?_
    refine ⟨_, rfl, ?_⟩
    exact ⟨by rw [Value.bool.injEq, Bool.eq_iff_iff]; simp only [isDigit, decide_eq_true_eq, true_iff, Bool.false_eq_true, false_iff]; omega, rfl⟩

theorem rletter_any (c : UInt8) (w : World) : Ret Try.prog 33 [.int .u8 (c.toNat : Int)] w fun v w' => v = .bool (isLetter c) ∧ w' = w := by
  refine ret_of [_] Try.func33 rfl Try.ntmps33 rfl ?_
  have st := St.init w []
  refine vc_seq ?_
  refine vc_region ?_
  refine vc_y rfl rfl (y_as rfl) ?_
  refine vc_end ?_
  refine vq_then ?_
  refine vc_keep [(0, _)] ⟨rfl, trivial⟩ ?_
  refine vc_seq ?_
  refine vc_region ?_
  refine vc_y rfl rfl (y_mv rfl) ?_
  refine vc_y rfl rfl (y_geq rfl rfl) ?_
  refine vc_e (e_mvb rfl rfl rfl ?_ ?_)
  · intro hg5
    try simp only [decide_eq_true_eq, decide_eq_false_iff_not, Bool.not_eq_true', Bool.not_eq_false', Bool.not_eq_true, Bool.not_eq_false, Int.not_lt, Int.not_le, Nat.not_lt, Nat.not_le, Bool.not_true, Bool.not_false, Bool.true_eq_false, Bool.false_eq_true] at hg5
    refine vc_y rfl rfl (y_mv rfl) ?_
    refine vc_y rfl rfl (y_leq rfl rfl) ?_
    refine vc_y rfl rfl (y_pickt rfl rfl) ?_
    refine vc_e (e_mvb rfl rfl rfl ?_ ?_)
    · intro hg9
      try simp only [decide_eq_true_eq, decide_eq_false_iff_not, Bool.not_eq_true', Bool.not_eq_false', Bool.not_eq_true, Bool.not_eq_false, Int.not_lt, Int.not_le, Nat.not_lt, Nat.not_le, Bool.not_true, Bool.not_false, Bool.true_eq_false, Bool.false_eq_true] at hg9
      refine vc_e (e_skip rfl rfl ?_)
      refine vc_e (e_skip rfl rfl ?_)
      refine vc_e (e_skip rfl rfl ?_)
      refine vc_e (e_skip rfl rfl ?_)
      refine vc_e (e_skip rfl rfl ?_)
      refine vc_e (e_skip rfl rfl ?_)
      refine vc_y rfl rfl (y_pickt rfl rfl) ?_
      refine vc_y rfl rfl (y_mv rfl) ?_
      refine vc_e (e_skip rfl rfl ?_)
      refine vc_e (e_skip rfl rfl ?_)
      refine vc_y rfl rfl (y_pickt rfl rfl) ?_
      refine vc_y rfl rfl (y_as rfl) ?_
      refine vc_end ?_
      refine vq_then ?_
      refine vc_keep [(2, _)] ⟨rfl, trivial⟩ ?_
      refine vc_ret ?_
      refine vq_ret1 st (.inl rfl) Try.results33 (.tmp rfl) ?_
      refine ⟨_, rfl, ?_⟩
      exact ⟨by rw [Value.bool.injEq, Bool.eq_iff_iff]; simp only [isLetter, decide_eq_true_eq, true_iff, Bool.false_eq_true, false_iff]; omega, rfl⟩
    · intro hg9
      try simp only [decide_eq_true_eq, decide_eq_false_iff_not, Bool.not_eq_true', Bool.not_eq_false', Bool.not_eq_true, Bool.not_eq_false, Int.not_lt, Int.not_le, Nat.not_lt, Nat.not_le, Bool.not_true, Bool.not_false, Bool.true_eq_false, Bool.false_eq_true] at hg9
      refine vc_y rfl rfl (y_mv rfl) ?_
      refine vc_y rfl rfl (y_geq rfl rfl) ?_
      refine vc_e (e_mvb rfl rfl rfl ?_ ?_)
      · intro hg12
        try simp only [decide_eq_true_eq, decide_eq_false_iff_not, Bool.not_eq_true', Bool.not_eq_false', Bool.not_eq_true, Bool.not_eq_false, Int.not_lt, Int.not_le, Nat.not_lt, Nat.not_le, Bool.not_true, Bool.not_false, Bool.true_eq_false, Bool.false_eq_true] at hg12
        refine vc_y rfl rfl (y_mv rfl) ?_
        refine vc_y rfl rfl (y_leq rfl rfl) ?_
        refine vc_y rfl rfl (y_pickt rfl rfl) ?_
        refine vc_y rfl rfl (y_pickf rfl rfl) ?_
        refine vc_e (e_mvb rfl rfl rfl ?_ ?_)
        · intro hg17
          try simp only [decide_eq_true_eq, decide_eq_false_iff_not, Bool.not_eq_true', Bool.not_eq_false', Bool.not_eq_true, Bool.not_eq_false, Int.not_lt, Int.not_le, Nat.not_lt, Nat.not_le, Bool.not_true, Bool.not_false, Bool.true_eq_false, Bool.false_eq_true] at hg17
          refine vc_e (e_skip rfl rfl ?_)
          refine vc_e (e_skip rfl rfl ?_)
          refine vc_y rfl rfl (y_pickt rfl rfl) ?_
          refine vc_y rfl rfl (y_as rfl) ?_
          refine vc_end ?_
          refine vq_then ?_
          refine vc_keep [(2, _)] ⟨rfl, trivial⟩ ?_
          refine vc_ret ?_
          refine vq_ret1 st (.inl rfl) Try.results33 (.tmp rfl) ?_
          refine ⟨_, rfl, ?_⟩
          exact ⟨by rw [Value.bool.injEq, Bool.eq_iff_iff]; simp only [isLetter, decide_eq_true_eq, true_iff, Bool.false_eq_true, false_iff]; omega, rfl⟩
        · intro hg17
          try simp only [decide_eq_true_eq, decide_eq_false_iff_not, Bool.not_eq_true', Bool.not_eq_false', Bool.not_eq_true, Bool.not_eq_false, Int.not_lt, Int.not_le, Nat.not_lt, Nat.not_le, Bool.not_true, Bool.not_false, Bool.true_eq_false, Bool.false_eq_true] at hg17
          refine vc_y rfl rfl (y_mv rfl) ?_
          refine vc_y rfl rfl (y_eqi rfl rfl) ?_
          refine vc_y rfl rfl (y_pickf rfl rfl) ?_
          refine vc_y rfl rfl (y_as rfl) ?_
          refine vc_end ?_
          refine vq_then ?_
          refine vc_keep [(2, _)] ⟨rfl, trivial⟩ ?_
          refine vc_ret ?_
          refine vq_ret1 st (.inl rfl) Try.results33 (.tmp rfl) ?_
          refine ⟨_, rfl, ?_⟩
          exact ⟨by rw [Value.bool.injEq, Bool.eq_iff_iff]; simp only [isLetter, decide_eq_true_eq, true_iff, Bool.false_eq_true, false_iff]; omega, rfl⟩
      · intro hg12
        try simp only [decide_eq_true_eq, decide_eq_false_iff_not, Bool.not_eq_true', Bool.not_eq_false', Bool.not_eq_true, Bool.not_eq_false, Int.not_lt, Int.not_le, Nat.not_lt, Nat.not_le, Bool.not_true, Bool.not_false, Bool.true_eq_false, Bool.false_eq_true] at hg12
        refine vc_e (e_skip rfl rfl ?_)
        refine vc_e (e_skip rfl rfl ?_)
        refine vc_y rfl rfl (y_pickf rfl rfl) ?_
        refine vc_y rfl rfl (y_pickf rfl rfl) ?_
        refine vc_y rfl rfl (y_mv rfl) ?_
        refine vc_y rfl rfl (y_mv rfl) ?_
        refine vc_y rfl rfl (y_eqi rfl rfl) ?_
        refine vc_y rfl rfl (y_pickf rfl rfl) ?_
        refine vc_y rfl rfl (y_as rfl) ?_
        refine vc_end ?_
        refine vq_then ?_
        refine vc_keep [(2, _)] ⟨rfl, trivial⟩ ?_
        refine vc_ret ?_
        refine vq_ret1 st (.inl rfl) Try.results33 (.tmp rfl) ?_
        refine ⟨_, rfl, ?_⟩
        exact ⟨by rw [Value.bool.injEq, Bool.eq_iff_iff]; simp only [isLetter, decide_eq_true_eq, true_iff, Bool.false_eq_true, false_iff]; omega, rfl⟩
  · intro hg5
    try simp only [decide_eq_true_eq, decide_eq_false_iff_not, Bool.not_eq_true', Bool.not_eq_false', Bool.not_eq_true, Bool.not_eq_false, Int.not_lt, Int.not_le, Nat.not_lt, Nat.not_le, Bool.not_true, Bool.not_false, Bool.true_eq_false, Bool.false_eq_true] at hg5
    refine vc_e (e_skip rfl rfl ?_)
    refine vc_e (e_skip rfl rfl ?_)
    refine vc_y rfl rfl (y_pickf rfl rfl) ?_
    refine vc_y rfl rfl (y_mv rfl) ?_
    refine vc_y rfl rfl (y_mv rfl) ?_
    refine vc_y rfl rfl (y_geq rfl rfl) ?_
    refine vc_e (e_mvb rfl rfl rfl ?_ ?_)
    · intro hg12
      try simp only [decide_eq_true_eq, decide_eq_false_iff_not, Bool.not_eq_true', Bool.not_eq_false', Bool.not_eq_true, Bool.not_eq_false, Int.not_lt, Int.not_le, Nat.not_lt, Nat.not_le, Bool.not_true, Bool.not_false, Bool.true_eq_false, Bool.false_eq_true] at hg12
      refine vc_y rfl rfl (y_mv rfl) ?_
      refine vc_y rfl rfl (y_leq rfl rfl) ?_
      refine vc_y rfl rfl (y_pickt rfl rfl) ?_
      refine vc_y rfl rfl (y_pickf rfl rfl) ?_
      refine vc_e (e_mvb rfl rfl rfl ?_ ?_)
      · intro hg17
        try simp only [decide_eq_true_eq, decide_eq_false_iff_not, Bool.not_eq_true', Bool.not_eq_false', Bool.not_eq_true, Bool.not_eq_false, Int.not_lt, Int.not_le, Nat.not_lt, Nat.not_le, Bool.not_true, Bool.not_false, Bool.true_eq_false, Bool.false_eq_true] at hg17
        refine vc_e (e_skip rfl rfl ?_)
        refine vc_e (e_skip rfl rfl ?_)
        refine vc_y rfl rfl (y_pickt rfl rfl) ?_
        refine vc_y rfl rfl (y_as rfl) ?_
        refine vc_end ?_
        refine vq_then ?_
        refine vc_keep [(2, _)] ⟨rfl, trivial⟩ ?_
        refine vc_ret ?_
        refine vq_ret1 st (.inl rfl) Try.results33 (.tmp rfl) ?_
        refine ⟨_, rfl, ?_⟩
        exact ⟨by rw [Value.bool.injEq, Bool.eq_iff_iff]; simp only [isLetter, decide_eq_true_eq, true_iff, Bool.false_eq_true, false_iff]; omega, rfl⟩
      · intro hg17
        try simp only [decide_eq_true_eq, decide_eq_false_iff_not, Bool.not_eq_true', Bool.not_eq_false', Bool.not_eq_true, Bool.not_eq_false, Int.not_lt, Int.not_le, Nat.not_lt, Nat.not_le, Bool.not_true, Bool.not_false, Bool.true_eq_false, Bool.false_eq_true] at hg17
        refine vc_y rfl rfl (y_mv rfl) ?_
        refine vc_y rfl rfl (y_eqi rfl rfl) ?_
        refine vc_y rfl rfl (y_pickf rfl rfl) ?_
        refine vc_y rfl rfl (y_as rfl) ?_
        refine vc_end ?_
        refine vq_then ?_
        refine vc_keep [(2, _)] ⟨rfl, trivial⟩ ?_
        refine vc_ret ?_
        refine vq_ret1 st (.inl rfl) Try.results33 (.tmp rfl) ?_
        refine ⟨_, rfl, ?_⟩
        exact ⟨by rw [Value.bool.injEq, Bool.eq_iff_iff]; simp only [isLetter, decide_eq_true_eq, true_iff, Bool.false_eq_true, false_iff]; omega, rfl⟩
    · intro hg12
      try simp only [decide_eq_true_eq, decide_eq_false_iff_not, Bool.not_eq_true', Bool.not_eq_false', Bool.not_eq_true, Bool.not_eq_false, Int.not_lt, Int.not_le, Nat.not_lt, Nat.not_le, Bool.not_true, Bool.not_false, Bool.true_eq_false, Bool.false_eq_true] at hg12
      refine vc_e (e_skip rfl rfl ?_)
      refine vc_e (e_skip rfl rfl ?_)
      refine vc_y rfl rfl (y_pickf rfl rfl) ?_
      refine vc_y rfl rfl (y_pickf rfl rfl) ?_
      refine vc_y rfl rfl (y_mv rfl) ?_
      refine vc_y rfl rfl (y_mv rfl) ?_
      refine vc_y rfl rfl (y_eqi rfl rfl) ?_
      refine vc_y rfl rfl (y_pickf rfl rfl) ?_
      refine vc_y rfl rfl (y_as rfl) ?_
      refine vc_end ?_
      refine vq_then ?_
      refine vc_keep [(2, _)] ⟨rfl, trivial⟩ ?_
      refine vc_ret ?_
      refine vq_ret1 st (.inl rfl) Try.results33 (.tmp rfl) ?_
      refine ⟨_, rfl, ?_⟩
      exact ⟨by rw [Value.bool.injEq, Bool.eq_iff_iff]; simp only [isLetter, decide_eq_true_eq, true_iff, Bool.false_eq_true, false_iff]; omega, rfl⟩

theorem rblank_any (c : UInt8) (w : World) : Ret Try.prog 48 [.int .u8 (c.toNat : Int)] w fun v w' => v = .bool (isBlank c) ∧ w' = w := by
  refine ret_of [_] Try.func48 rfl Try.ntmps48 rfl ?_
  have st := St.init w []
  refine vc_seq ?_
  refine vc_region ?_
  refine vc_y rfl rfl (y_as rfl) ?_
  refine vc_end ?_
  refine vq_then ?_
  refine vc_keep [(0, _)] ⟨rfl, trivial⟩ ?_
  refine vc_seq ?_
  refine vc_region ?_
  refine vc_y rfl rfl (y_mv rfl) ?_
  refine vc_y rfl rfl (y_eqi rfl rfl) ?_
  refine vc_e (e_mvb rfl rfl rfl ?_ ?_)
  · intro hg5
    try simp only [decide_eq_true_eq, decide_eq_false_iff_not, Bool.not_eq_true', Bool.not_eq_false', Bool.not_eq_true, Bool.not_eq_false, Int.not_lt, Int.not_le, Nat.not_lt, Nat.not_le, Bool.not_true, Bool.not_false, Bool.true_eq_false, Bool.false_eq_true] at hg5
    refine vc_e (e_skip rfl rfl ?_)
    refine vc_e (e_skip rfl rfl ?_)
    refine vc_y rfl rfl (y_pickt rfl rfl) ?_
    refine vc_y rfl rfl (y_mv rfl) ?_
    refine vc_e (e_skip rfl rfl ?_)
    refine vc_e (e_skip rfl rfl ?_)
    refine vc_y rfl rfl (y_pickt rfl rfl) ?_
    refine vc_y rfl rfl (y_mv rfl) ?_
    refine vc_e (e_skip rfl rfl ?_)
    refine vc_e (e_skip rfl rfl ?_)
    refine vc_y rfl rfl (y_pickt rfl rfl) ?_
    refine vc_y rfl rfl (y_as rfl) ?_
    refine vc_end ?_
    refine vq_then ?_
    refine vc_keep [(2, _)] ⟨rfl, trivial⟩ ?_
    refine vc_ret ?_
    refine vq_ret1 st (.inl rfl) Try.results48 (.tmp rfl) ?_
    refine ⟨_, rfl, ?_⟩
    exact ⟨by rw [Value.bool.injEq, Bool.eq_iff_iff]; simp only [isBlank, decide_eq_true_eq, true_iff, Bool.false_eq_true, false_iff]; omega, rfl⟩
  · intro hg5
    try simp only [decide_eq_true_eq, decide_eq_false_iff_not, Bool.not_eq_true', Bool.not_eq_false', Bool.not_eq_true, Bool.not_eq_false, Int.not_lt, Int.not_le, Nat.not_lt, Nat.not_le, Bool.not_true, Bool.not_false, Bool.true_eq_false, Bool.false_eq_true] at hg5
    refine vc_y rfl rfl (y_mv rfl) ?_
    refine vc_y rfl rfl (y_eqi rfl rfl) ?_
    refine vc_y rfl rfl (y_pickf rfl rfl) ?_
    refine vc_e (e_mvb rfl rfl rfl ?_ ?_)
    · intro hg9
      try simp only [decide_eq_true_eq, decide_eq_false_iff_not, Bool.not_eq_true', Bool.not_eq_false', Bool.not_eq_true, Bool.not_eq_false, Int.not_lt, Int.not_le, Nat.not_lt, Nat.not_le, Bool.not_true, Bool.not_false, Bool.true_eq_false, Bool.false_eq_true] at hg9
      refine vc_e (e_skip rfl rfl ?_)
      refine vc_e (e_skip rfl rfl ?_)
      refine vc_y rfl rfl (y_pickt rfl rfl) ?_
      refine vc_y rfl rfl (y_mv rfl) ?_
      refine vc_e (e_skip rfl rfl ?_)
      refine vc_e (e_skip rfl rfl ?_)
      refine vc_y rfl rfl (y_pickt rfl rfl) ?_
      refine vc_y rfl rfl (y_as rfl) ?_
      refine vc_end ?_
      refine vq_then ?_
      refine vc_keep [(2, _)] ⟨rfl, trivial⟩ ?_
      refine vc_ret ?_
      refine vq_ret1 st (.inl rfl) Try.results48 (.tmp rfl) ?_
      refine ⟨_, rfl, ?_⟩
      exact ⟨by rw [Value.bool.injEq, Bool.eq_iff_iff]; simp only [isBlank, decide_eq_true_eq, true_iff, Bool.false_eq_true, false_iff]; omega, rfl⟩
    · intro hg9
      try simp only [decide_eq_true_eq, decide_eq_false_iff_not, Bool.not_eq_true', Bool.not_eq_false', Bool.not_eq_true, Bool.not_eq_false, Int.not_lt, Int.not_le, Nat.not_lt, Nat.not_le, Bool.not_true, Bool.not_false, Bool.true_eq_false, Bool.false_eq_true] at hg9
      refine vc_y rfl rfl (y_mv rfl) ?_
      refine vc_y rfl rfl (y_eqi rfl rfl) ?_
      refine vc_y rfl rfl (y_pickf rfl rfl) ?_
      refine vc_e (e_mvb rfl rfl rfl ?_ ?_)
      · intro hg13
        try simp only [decide_eq_true_eq, decide_eq_false_iff_not, Bool.not_eq_true', Bool.not_eq_false', Bool.not_eq_true, Bool.not_eq_false, Int.not_lt, Int.not_le, Nat.not_lt, Nat.not_le, Bool.not_true, Bool.not_false, Bool.true_eq_false, Bool.false_eq_true] at hg13
        refine vc_e (e_skip rfl rfl ?_)
        refine vc_e (e_skip rfl rfl ?_)
        refine vc_y rfl rfl (y_pickt rfl rfl) ?_
        refine vc_y rfl rfl (y_as rfl) ?_
        refine vc_end ?_
        refine vq_then ?_
        refine vc_keep [(2, _)] ⟨rfl, trivial⟩ ?_
        refine vc_ret ?_
        refine vq_ret1 st (.inl rfl) Try.results48 (.tmp rfl) ?_
        refine ⟨_, rfl, ?_⟩
        exact ⟨by rw [Value.bool.injEq, Bool.eq_iff_iff]; simp only [isBlank, decide_eq_true_eq, true_iff, Bool.false_eq_true, false_iff]; omega, rfl⟩
      · intro hg13
        try simp only [decide_eq_true_eq, decide_eq_false_iff_not, Bool.not_eq_true', Bool.not_eq_false', Bool.not_eq_true, Bool.not_eq_false, Int.not_lt, Int.not_le, Nat.not_lt, Nat.not_le, Bool.not_true, Bool.not_false, Bool.true_eq_false, Bool.false_eq_true] at hg13
        refine vc_y rfl rfl (y_mv rfl) ?_
        refine vc_y rfl rfl (y_eqi rfl rfl) ?_
        refine vc_y rfl rfl (y_pickf rfl rfl) ?_
        refine vc_y rfl rfl (y_as rfl) ?_
        refine vc_end ?_
        refine vq_then ?_
        refine vc_keep [(2, _)] ⟨rfl, trivial⟩ ?_
        refine vc_ret ?_
        refine vq_ret1 st (.inl rfl) Try.results48 (.tmp rfl) ?_
        refine ⟨_, rfl, ?_⟩
        exact ⟨by rw [Value.bool.injEq, Bool.eq_iff_iff]; simp only [isBlank, decide_eq_true_eq, true_iff, Bool.false_eq_true, false_iff]; omega, rfl⟩

end Go.Proofs.Ytakepmhgmgpkkaa
