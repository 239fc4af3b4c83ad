/- A part of the proof: contracts of functions and plain laws; each theorem says its own conditions. -/
import Derived.Test.YtggnfanphcaamaaGreatDoorRows
import Derived.Test.YtggnfanphcaamaaGreatDoorK0
import Derived.Test.YtggnfanphcaamaaGreatDoorK1
namespace Go.Proofs.YtggnfanphcaamaaGreatDoor
open Go.RowKit Sx LexS _root_.Go.Proofs.Tryz
set_option linter.unusedVariables false
set_option linter.unusedSimpArgs false
theorem Tryz.mixed : Tryz.prog.follows .mixedOrders = true := by kernel_rfl

theorem digit_any (c : UInt8) (w : World) : Ret Tryz.prog 60 [.int .u8 (c.toNat : Int)] w fun v w' => v = .bool (isDigit c) ∧ w' = w := by
 refine ret_of [_] func60 rfl ntmps60 rfl ?_
 have st := St.init w []
 refine vc_seq ?_
 refine vc_region ?_
 refine vc_y rfl rfl (y_as rfl) ?_
 refine vc_end (vq_then (vc_keep [(0, _)] ⟨rfl, trivial⟩ (vc_seq ?_)))
 refine vc_region ?_
 refine vc_y rfl rfl (y_mv rfl) ?_
 refine vc_y rfl rfl (y_geq rfl rfl) ?_
 refine vc_e (e_mvb rfl rfl rfl ?_ ?_)
 ·
  intro hg5
  try simp only [decide_eq_true_eq, decide_eq_false_iff_not, Bool.not_eq_true', Bool.not_eq_false', Bool.not_eq_true, Bool.not_eq_false, Int.not_lt, Int.not_le, Nat.not_lt, Nat.not_le, Bool.not_true, Bool.not_false, Bool.true_eq_false, Bool.false_eq_true] at hg5
  refine vc_y rfl rfl (y_mv rfl) ?_
  refine vc_y rfl rfl (y_leq rfl rfl) ?_
  refine vc_y rfl rfl (y_pickt rfl rfl) ?_
  refine vc_y rfl rfl (y_as rfl) ?_
  refine vc_end (vq_then (vc_keep [(2, _)] ⟨rfl, trivial⟩ (vc_ret ?_)))
  refine vq_ret1 st (.inl rfl) results60 (.tmp rfl) ?_
  refine ⟨_, rfl, ?_⟩
  exact ⟨by rw [Value.bool.injEq, Bool.eq_iff_iff]; simp only [isDigit, decide_eq_true_eq, true_iff, Bool.false_eq_true, false_iff]; omega, rfl⟩
 ·
  intro hg5
  try simp only [decide_eq_true_eq, decide_eq_false_iff_not, Bool.not_eq_true', Bool.not_eq_false', Bool.not_eq_true, Bool.not_eq_false, Int.not_lt, Int.not_le, Nat.not_lt, Nat.not_le, Bool.not_true, Bool.not_false, Bool.true_eq_false, Bool.false_eq_true] at hg5
  iterate 2 refine vc_e (e_skip rfl rfl ?_)
  refine vc_y rfl rfl (y_pickf rfl rfl) ?_
  refine vc_y rfl rfl (y_as rfl) ?_
  refine vc_end (vq_then (vc_keep [(2, _)] ⟨rfl, trivial⟩ (vc_ret ?_)))
  refine vq_ret1 st (.inl rfl) results60 (.tmp rfl) ?_
  refine ⟨_, rfl, ?_⟩
  exact ⟨by rw [Value.bool.injEq, Bool.eq_iff_iff]; simp only [isDigit, decide_eq_true_eq, true_iff, Bool.false_eq_true, false_iff]; omega, rfl⟩

theorem letter_any (c : UInt8) (w : World) : Ret Tryz.prog 59 [.int .u8 (c.toNat : Int)] w fun v w' => v = .bool (isLetter c) ∧ w' = w := by
 refine ret_of [_] func59 rfl ntmps59 rfl ?_
 have st := St.init w []
 refine vc_seq ?_
 refine vc_region ?_
 refine vc_y rfl rfl (y_as rfl) ?_
 refine vc_end (vq_then (vc_keep [(0, _)] ⟨rfl, trivial⟩ (vc_seq ?_)))
 refine vc_region ?_
 refine vc_y rfl rfl (y_mv rfl) ?_
 refine vc_y rfl rfl (y_geq rfl rfl) ?_
 refine vc_e (e_mvb rfl rfl rfl ?_ ?_)
 ·
  intro hg5
  try simp only [decide_eq_true_eq, decide_eq_false_iff_not, Bool.not_eq_true', Bool.not_eq_false', Bool.not_eq_true, Bool.not_eq_false, Int.not_lt, Int.not_le, Nat.not_lt, Nat.not_le, Bool.not_true, Bool.not_false, Bool.true_eq_false, Bool.false_eq_true] at hg5
  refine vc_y rfl rfl (y_mv rfl) ?_
  refine vc_y rfl rfl (y_leq rfl rfl) ?_
  refine vc_y rfl rfl (y_pickt rfl rfl) ?_
  refine vc_e (e_mvb rfl rfl rfl ?_ ?_)
  ·
   intro hg9
   try simp only [decide_eq_true_eq, decide_eq_false_iff_not, Bool.not_eq_true', Bool.not_eq_false', Bool.not_eq_true, Bool.not_eq_false, Int.not_lt, Int.not_le, Nat.not_lt, Nat.not_le, Bool.not_true, Bool.not_false, Bool.true_eq_false, Bool.false_eq_true] at hg9
   iterate 6 refine vc_e (e_skip rfl rfl ?_)
   refine vc_y rfl rfl (y_pickt rfl rfl) ?_
   refine vc_y rfl rfl (y_mv rfl) ?_
   iterate 2 refine vc_e (e_skip rfl rfl ?_)
   refine vc_y rfl rfl (y_pickt rfl rfl) ?_
   refine vc_y rfl rfl (y_as rfl) ?_
   refine vc_end (vq_then (vc_keep [(2, _)] ⟨rfl, trivial⟩ (vc_ret ?_)))
   refine vq_ret1 st (.inl rfl) results59 (.tmp rfl) ?_
   refine ⟨_, rfl, ?_⟩
   exact ⟨by rw [Value.bool.injEq, Bool.eq_iff_iff]; simp only [isLetter, decide_eq_true_eq, true_iff, Bool.false_eq_true, false_iff]; omega, rfl⟩
  ·
   intro hg9
   try simp only [decide_eq_true_eq, decide_eq_false_iff_not, Bool.not_eq_true', Bool.not_eq_false', Bool.not_eq_true, Bool.not_eq_false, Int.not_lt, Int.not_le, Nat.not_lt, Nat.not_le, Bool.not_true, Bool.not_false, Bool.true_eq_false, Bool.false_eq_true] at hg9
   refine vc_y rfl rfl (y_mv rfl) ?_
   refine vc_y rfl rfl (y_geq rfl rfl) ?_
   refine vc_e (e_mvb rfl rfl rfl ?_ ?_)
   ·
    intro hg12
    try simp only [decide_eq_true_eq, decide_eq_false_iff_not, Bool.not_eq_true', Bool.not_eq_false', Bool.not_eq_true, Bool.not_eq_false, Int.not_lt, Int.not_le, Nat.not_lt, Nat.not_le, Bool.not_true, Bool.not_false, Bool.true_eq_false, Bool.false_eq_true] at hg12
    refine vc_y rfl rfl (y_mv rfl) ?_
    refine vc_y rfl rfl (y_leq rfl rfl) ?_
    refine vc_y rfl rfl (y_pickt rfl rfl) ?_
    refine vc_y rfl rfl (y_pickf rfl rfl) ?_
    refine vc_e (e_mvb rfl rfl rfl ?_ ?_)
    ·
     intro hg17
     try simp only [decide_eq_true_eq, decide_eq_false_iff_not, Bool.not_eq_true', Bool.not_eq_false', Bool.not_eq_true, Bool.not_eq_false, Int.not_lt, Int.not_le, Nat.not_lt, Nat.not_le, Bool.not_true, Bool.not_false, Bool.true_eq_false, Bool.false_eq_true] at hg17
     iterate 2 refine vc_e (e_skip rfl rfl ?_)
     refine vc_y rfl rfl (y_pickt rfl rfl) ?_
     refine vc_y rfl rfl (y_as rfl) ?_
     refine vc_end (vq_then (vc_keep [(2, _)] ⟨rfl, trivial⟩ (vc_ret ?_)))
     refine vq_ret1 st (.inl rfl) results59 (.tmp rfl) ?_
     refine ⟨_, rfl, ?_⟩
     exact ⟨by rw [Value.bool.injEq, Bool.eq_iff_iff]; simp only [isLetter, decide_eq_true_eq, true_iff, Bool.false_eq_true, false_iff]; omega, rfl⟩
    ·
     intro hg17
     try simp only [decide_eq_true_eq, decide_eq_false_iff_not, Bool.not_eq_true', Bool.not_eq_false', Bool.not_eq_true, Bool.not_eq_false, Int.not_lt, Int.not_le, Nat.not_lt, Nat.not_le, Bool.not_true, Bool.not_false, Bool.true_eq_false, Bool.false_eq_true] at hg17
     refine vc_y rfl rfl (y_mv rfl) ?_
     refine vc_y rfl rfl (y_eqi rfl rfl) ?_
     refine vc_y rfl rfl (y_pickf rfl rfl) ?_
     refine vc_y rfl rfl (y_as rfl) ?_
     refine vc_end (vq_then (vc_keep [(2, _)] ⟨rfl, trivial⟩ (vc_ret ?_)))
     refine vq_ret1 st (.inl rfl) results59 (.tmp rfl) ?_
     refine ⟨_, rfl, ?_⟩
     exact ⟨by rw [Value.bool.injEq, Bool.eq_iff_iff]; simp only [isLetter, decide_eq_true_eq, true_iff, Bool.false_eq_true, false_iff]; omega, rfl⟩
   ·
    intro hg12
    try simp only [decide_eq_true_eq, decide_eq_false_iff_not, Bool.not_eq_true', Bool.not_eq_false', Bool.not_eq_true, Bool.not_eq_false, Int.not_lt, Int.not_le, Nat.not_lt, Nat.not_le, Bool.not_true, Bool.not_false, Bool.true_eq_false, Bool.false_eq_true] at hg12
    iterate 2 refine vc_e (e_skip rfl rfl ?_)
    iterate 2 refine vc_y rfl rfl (y_pickf rfl rfl) ?_
    iterate 2 refine vc_y rfl rfl (y_mv rfl) ?_
    refine vc_y rfl rfl (y_eqi rfl rfl) ?_
    refine vc_y rfl rfl (y_pickf rfl rfl) ?_
    refine vc_y rfl rfl (y_as rfl) ?_
    refine vc_end (vq_then (vc_keep [(2, _)] ⟨rfl, trivial⟩ (vc_ret ?_)))
    refine vq_ret1 st (.inl rfl) results59 (.tmp rfl) ?_
    refine ⟨_, rfl, ?_⟩
    exact ⟨by rw [Value.bool.injEq, Bool.eq_iff_iff]; simp only [isLetter, decide_eq_true_eq, true_iff, Bool.false_eq_true, false_iff]; omega, rfl⟩
 ·
  intro hg5
  try simp only [decide_eq_true_eq, decide_eq_false_iff_not, Bool.not_eq_true', Bool.not_eq_false', Bool.not_eq_true, Bool.not_eq_false, Int.not_lt, Int.not_le, Nat.not_lt, Nat.not_le, Bool.not_true, Bool.not_false, Bool.true_eq_false, Bool.false_eq_true] at hg5
  iterate 2 refine vc_e (e_skip rfl rfl ?_)
  refine vc_y rfl rfl (y_pickf rfl rfl) ?_
  iterate 2 refine vc_y rfl rfl (y_mv rfl) ?_
  refine vc_y rfl rfl (y_geq rfl rfl) ?_
  refine vc_e (e_mvb rfl rfl rfl ?_ ?_)
  ·
   intro hg12
   try simp only [decide_eq_true_eq, decide_eq_false_iff_not, Bool.not_eq_true', Bool.not_eq_false', Bool.not_eq_true, Bool.not_eq_false, Int.not_lt, Int.not_le, Nat.not_lt, Nat.not_le, Bool.not_true, Bool.not_false, Bool.true_eq_false, Bool.false_eq_true] at hg12
   refine vc_y rfl rfl (y_mv rfl) ?_
   refine vc_y rfl rfl (y_leq rfl rfl) ?_
   refine vc_y rfl rfl (y_pickt rfl rfl) ?_
   refine vc_y rfl rfl (y_pickf rfl rfl) ?_
   refine vc_e (e_mvb rfl rfl rfl ?_ ?_)
   ·
    intro hg17
    try simp only [decide_eq_true_eq, decide_eq_false_iff_not, Bool.not_eq_true', Bool.not_eq_false', Bool.not_eq_true, Bool.not_eq_false, Int.not_lt, Int.not_le, Nat.not_lt, Nat.not_le, Bool.not_true, Bool.not_false, Bool.true_eq_false, Bool.false_eq_true] at hg17
    iterate 2 refine vc_e (e_skip rfl rfl ?_)
    refine vc_y rfl rfl (y_pickt rfl rfl) ?_
    refine vc_y rfl rfl (y_as rfl) ?_
    refine vc_end (vq_then (vc_keep [(2, _)] ⟨rfl, trivial⟩ (vc_ret ?_)))
    refine vq_ret1 st (.inl rfl) results59 (.tmp rfl) ?_
    refine ⟨_, rfl, ?_⟩
    exact ⟨by rw [Value.bool.injEq, Bool.eq_iff_iff]; simp only [isLetter, decide_eq_true_eq, true_iff, Bool.false_eq_true, false_iff]; omega, rfl⟩
   ·
    intro hg17
    try simp only [decide_eq_true_eq, decide_eq_false_iff_not, Bool.not_eq_true', Bool.not_eq_false', Bool.not_eq_true, Bool.not_eq_false, Int.not_lt, Int.not_le, Nat.not_lt, Nat.not_le, Bool.not_true, Bool.not_false, Bool.true_eq_false, Bool.false_eq_true] at hg17
    refine vc_y rfl rfl (y_mv rfl) ?_
    refine vc_y rfl rfl (y_eqi rfl rfl) ?_
    refine vc_y rfl rfl (y_pickf rfl rfl) ?_
    refine vc_y rfl rfl (y_as rfl) ?_
    refine vc_end (vq_then (vc_keep [(2, _)] ⟨rfl, trivial⟩ (vc_ret ?_)))
    refine vq_ret1 st (.inl rfl) results59 (.tmp rfl) ?_
    refine ⟨_, rfl, ?_⟩
    exact ⟨by rw [Value.bool.injEq, Bool.eq_iff_iff]; simp only [isLetter, decide_eq_true_eq, true_iff, Bool.false_eq_true, false_iff]; omega, rfl⟩
  ·
   intro hg12
   try simp only [decide_eq_true_eq, decide_eq_false_iff_not, Bool.not_eq_true', Bool.not_eq_false', Bool.not_eq_true, Bool.not_eq_false, Int.not_lt, Int.not_le, Nat.not_lt, Nat.not_le, Bool.not_true, Bool.not_false, Bool.true_eq_false, Bool.false_eq_true] at hg12
   iterate 2 refine vc_e (e_skip rfl rfl ?_)
   iterate 2 refine vc_y rfl rfl (y_pickf rfl rfl) ?_
   iterate 2 refine vc_y rfl rfl (y_mv rfl) ?_
   refine vc_y rfl rfl (y_eqi rfl rfl) ?_
   refine vc_y rfl rfl (y_pickf rfl rfl) ?_
   refine vc_y rfl rfl (y_as rfl) ?_
   refine vc_end (vq_then (vc_keep [(2, _)] ⟨rfl, trivial⟩ (vc_ret ?_)))
   refine vq_ret1 st (.inl rfl) results59 (.tmp rfl) ?_
   refine ⟨_, rfl, ?_⟩
   exact ⟨by rw [Value.bool.injEq, Bool.eq_iff_iff]; simp only [isLetter, decide_eq_true_eq, true_iff, Bool.false_eq_true, false_iff]; omega, rfl⟩

theorem blank_any (c : UInt8) (w : World) : Ret Tryz.prog 66 [.int .u8 (c.toNat : Int)] w fun v w' => v = .bool (isBlank c) ∧ w' = w := by
 refine ret_of [_] func66 rfl ntmps66 rfl ?_
 have st := St.init w []
 refine vc_seq ?_
 refine vc_region ?_
 refine vc_y rfl rfl (y_as rfl) ?_
 refine vc_end (vq_then (vc_keep [(0, _)] ⟨rfl, trivial⟩ (vc_seq ?_)))
 refine vc_region ?_
 refine vc_y rfl rfl (y_mv rfl) ?_
 refine vc_y rfl rfl (y_eqi rfl rfl) ?_
 refine vc_e (e_mvb rfl rfl rfl ?_ ?_)
 ·
  intro hg5
  try simp only [decide_eq_true_eq, decide_eq_false_iff_not, Bool.not_eq_true', Bool.not_eq_false', Bool.not_eq_true, Bool.not_eq_false, Int.not_lt, Int.not_le, Nat.not_lt, Nat.not_le, Bool.not_true, Bool.not_false, Bool.true_eq_false, Bool.false_eq_true] at hg5
  iterate 2 refine vc_e (e_skip rfl rfl ?_)
  refine vc_y rfl rfl (y_pickt rfl rfl) ?_
  refine vc_y rfl rfl (y_mv rfl) ?_
  iterate 2 refine vc_e (e_skip rfl rfl ?_)
  refine vc_y rfl rfl (y_pickt rfl rfl) ?_
  refine vc_y rfl rfl (y_mv rfl) ?_
  iterate 2 refine vc_e (e_skip rfl rfl ?_)
  refine vc_y rfl rfl (y_pickt rfl rfl) ?_
  refine vc_y rfl rfl (y_as rfl) ?_
  refine vc_end (vq_then (vc_keep [(2, _)] ⟨rfl, trivial⟩ (vc_ret ?_)))
  refine vq_ret1 st (.inl rfl) results66 (.tmp rfl) ?_
  refine ⟨_, rfl, ?_⟩
  exact ⟨by rw [Value.bool.injEq, Bool.eq_iff_iff]; simp only [isBlank, decide_eq_true_eq, true_iff, Bool.false_eq_true, false_iff]; omega, rfl⟩
 ·
  intro hg5
  try simp only [decide_eq_true_eq, decide_eq_false_iff_not, Bool.not_eq_true', Bool.not_eq_false', Bool.not_eq_true, Bool.not_eq_false, Int.not_lt, Int.not_le, Nat.not_lt, Nat.not_le, Bool.not_true, Bool.not_false, Bool.true_eq_false, Bool.false_eq_true] at hg5
  refine vc_y rfl rfl (y_mv rfl) ?_
  refine vc_y rfl rfl (y_eqi rfl rfl) ?_
  refine vc_y rfl rfl (y_pickf rfl rfl) ?_
  refine vc_e (e_mvb rfl rfl rfl ?_ ?_)
  ·
   intro hg9
   try simp only [decide_eq_true_eq, decide_eq_false_iff_not, Bool.not_eq_true', Bool.not_eq_false', Bool.not_eq_true, Bool.not_eq_false, Int.not_lt, Int.not_le, Nat.not_lt, Nat.not_le, Bool.not_true, Bool.not_false, Bool.true_eq_false, Bool.false_eq_true] at hg9
   iterate 2 refine vc_e (e_skip rfl rfl ?_)
   refine vc_y rfl rfl (y_pickt rfl rfl) ?_
   refine vc_y rfl rfl (y_mv rfl) ?_
   iterate 2 refine vc_e (e_skip rfl rfl ?_)
   refine vc_y rfl rfl (y_pickt rfl rfl) ?_
   refine vc_y rfl rfl (y_as rfl) ?_
   refine vc_end (vq_then (vc_keep [(2, _)] ⟨rfl, trivial⟩ (vc_ret ?_)))
   refine vq_ret1 st (.inl rfl) results66 (.tmp rfl) ?_
   refine ⟨_, rfl, ?_⟩
   exact ⟨by rw [Value.bool.injEq, Bool.eq_iff_iff]; simp only [isBlank, decide_eq_true_eq, true_iff, Bool.false_eq_true, false_iff]; omega, rfl⟩
  ·
   intro hg9
   try simp only [decide_eq_true_eq, decide_eq_false_iff_not, Bool.not_eq_true', Bool.not_eq_false', Bool.not_eq_true, Bool.not_eq_false, Int.not_lt, Int.not_le, Nat.not_lt, Nat.not_le, Bool.not_true, Bool.not_false, Bool.true_eq_false, Bool.false_eq_true] at hg9
   refine vc_y rfl rfl (y_mv rfl) ?_
   refine vc_y rfl rfl (y_eqi rfl rfl) ?_
   refine vc_y rfl rfl (y_pickf rfl rfl) ?_
   refine vc_e (e_mvb rfl rfl rfl ?_ ?_)
   ·
    intro hg13
    try simp only [decide_eq_true_eq, decide_eq_false_iff_not, Bool.not_eq_true', Bool.not_eq_false', Bool.not_eq_true, Bool.not_eq_false, Int.not_lt, Int.not_le, Nat.not_lt, Nat.not_le, Bool.not_true, Bool.not_false, Bool.true_eq_false, Bool.false_eq_true] at hg13
    iterate 2 refine vc_e (e_skip rfl rfl ?_)
    refine vc_y rfl rfl (y_pickt rfl rfl) ?_
    refine vc_y rfl rfl (y_as rfl) ?_
    refine vc_end (vq_then (vc_keep [(2, _)] ⟨rfl, trivial⟩ (vc_ret ?_)))
    refine vq_ret1 st (.inl rfl) results66 (.tmp rfl) ?_
    refine ⟨_, rfl, ?_⟩
    exact ⟨by rw [Value.bool.injEq, Bool.eq_iff_iff]; simp only [isBlank, decide_eq_true_eq, true_iff, Bool.false_eq_true, false_iff]; omega, rfl⟩
   ·
    intro hg13
    try simp only [decide_eq_true_eq, decide_eq_false_iff_not, Bool.not_eq_true', Bool.not_eq_false', Bool.not_eq_true, Bool.not_eq_false, Int.not_lt, Int.not_le, Nat.not_lt, Nat.not_le, Bool.not_true, Bool.not_false, Bool.true_eq_false, Bool.false_eq_true] at hg13
    refine vc_y rfl rfl (y_mv rfl) ?_
    refine vc_y rfl rfl (y_eqi rfl rfl) ?_
    refine vc_y rfl rfl (y_pickf rfl rfl) ?_
    refine vc_y rfl rfl (y_as rfl) ?_
    refine vc_end (vq_then (vc_keep [(2, _)] ⟨rfl, trivial⟩ (vc_ret ?_)))
    refine vq_ret1 st (.inl rfl) results66 (.tmp rfl) ?_
    refine ⟨_, rfl, ?_⟩
    exact ⟨by rw [Value.bool.injEq, Bool.eq_iff_iff]; simp only [isBlank, decide_eq_true_eq, true_iff, Bool.false_eq_true, false_iff]; omega, rfl⟩

theorem rdigit_any (c : UInt8) (w : World) : Ret Tryz.prog 76 [.int .u8 (c.toNat : Int)] w fun v w' => v = .bool (isDigit c) ∧ w' = w := by
 refine ret_of [_] func76 rfl ntmps76 rfl ?_
 have st := St.init w []
 refine vc_seq ?_
 refine vc_region ?_
 refine vc_y rfl rfl (y_as rfl) ?_
 refine vc_end (vq_then (vc_keep [(0, _)] ⟨rfl, trivial⟩ (vc_seq ?_)))
 refine vc_region ?_
 refine vc_y rfl rfl (y_mv rfl) ?_
 refine vc_y rfl rfl (y_geq rfl rfl) ?_
 refine vc_e (e_mvb rfl rfl rfl ?_ ?_)
 ·
  intro hg5
  try simp only [decide_eq_true_eq, decide_eq_false_iff_not, Bool.not_eq_true', Bool.not_eq_false', Bool.not_eq_true, Bool.not_eq_false, Int.not_lt, Int.not_le, Nat.not_lt, Nat.not_le, Bool.not_true, Bool.not_false, Bool.true_eq_false, Bool.false_eq_true] at hg5
  refine vc_y rfl rfl (y_mv rfl) ?_
  refine vc_y rfl rfl (y_leq rfl rfl) ?_
  refine vc_y rfl rfl (y_pickt rfl rfl) ?_
  refine vc_y rfl rfl (y_as rfl) ?_
  refine vc_end (vq_then (vc_keep [(2, _)] ⟨rfl, trivial⟩ (vc_ret ?_)))
  refine vq_ret1 st (.inl rfl) results76 (.tmp rfl) ?_
  refine ⟨_, rfl, ?_⟩
  exact ⟨by rw [Value.bool.injEq, Bool.eq_iff_iff]; simp only [isDigit, decide_eq_true_eq, true_iff, Bool.false_eq_true, false_iff]; omega, rfl⟩
 ·
  intro hg5
  try simp only [decide_eq_true_eq, decide_eq_false_iff_not, Bool.not_eq_true', Bool.not_eq_false', Bool.not_eq_true, Bool.not_eq_false, Int.not_lt, Int.not_le, Nat.not_lt, Nat.not_le, Bool.not_true, Bool.not_false, Bool.true_eq_false, Bool.false_eq_true] at hg5
  iterate 2 refine vc_e (e_skip rfl rfl ?_)
  refine vc_y rfl rfl (y_pickf rfl rfl) ?_
  refine vc_y rfl rfl (y_as rfl) ?_
  refine vc_end (vq_then (vc_keep [(2, _)] ⟨rfl, trivial⟩ (vc_ret ?_)))
  refine vq_ret1 st (.inl rfl) results76 (.tmp rfl) ?_
  refine ⟨_, rfl, ?_⟩
  exact ⟨by rw [Value.bool.injEq, Bool.eq_iff_iff]; simp only [isDigit, decide_eq_true_eq, true_iff, Bool.false_eq_true, false_iff]; omega, rfl⟩

theorem rletter_any (c : UInt8) (w : World) : Ret Tryz.prog 75 [.int .u8 (c.toNat : Int)] w fun v w' => v = .bool (isLetter c) ∧ w' = w := by
 refine ret_of [_] func75 rfl ntmps75 rfl ?_
 have st := St.init w []
 refine vc_seq ?_
 refine vc_region ?_
 refine vc_y rfl rfl (y_as rfl) ?_
 refine vc_end (vq_then (vc_keep [(0, _)] ⟨rfl, trivial⟩ (vc_seq ?_)))
 refine vc_region ?_
 refine vc_y rfl rfl (y_mv rfl) ?_
 refine vc_y rfl rfl (y_geq rfl rfl) ?_
 refine vc_e (e_mvb rfl rfl rfl ?_ ?_)
 ·
  intro hg5
  try simp only [decide_eq_true_eq, decide_eq_false_iff_not, Bool.not_eq_true', Bool.not_eq_false', Bool.not_eq_true, Bool.not_eq_false, Int.not_lt, Int.not_le, Nat.not_lt, Nat.not_le, Bool.not_true, Bool.not_false, Bool.true_eq_false, Bool.false_eq_true] at hg5
  refine vc_y rfl rfl (y_mv rfl) ?_
  refine vc_y rfl rfl (y_leq rfl rfl) ?_
  refine vc_y rfl rfl (y_pickt rfl rfl) ?_
  refine vc_e (e_mvb rfl rfl rfl ?_ ?_)
  ·
   intro hg9
   try simp only [decide_eq_true_eq, decide_eq_false_iff_not, Bool.not_eq_true', Bool.not_eq_false', Bool.not_eq_true, Bool.not_eq_false, Int.not_lt, Int.not_le, Nat.not_lt, Nat.not_le, Bool.not_true, Bool.not_false, Bool.true_eq_false, Bool.false_eq_true] at hg9
   iterate 6 refine vc_e (e_skip rfl rfl ?_)
   refine vc_y rfl rfl (y_pickt rfl rfl) ?_
   refine vc_y rfl rfl (y_mv rfl) ?_
   iterate 2 refine vc_e (e_skip rfl rfl ?_)
   refine vc_y rfl rfl (y_pickt rfl rfl) ?_
   refine vc_y rfl rfl (y_as rfl) ?_
   refine vc_end (vq_then (vc_keep [(2, _)] ⟨rfl, trivial⟩ (vc_ret ?_)))
   refine vq_ret1 st (.inl rfl) results75 (.tmp rfl) ?_
   refine ⟨_, rfl, ?_⟩
   exact ⟨by rw [Value.bool.injEq, Bool.eq_iff_iff]; simp only [isLetter, decide_eq_true_eq, true_iff, Bool.false_eq_true, false_iff]; omega, rfl⟩
  ·
   intro hg9
   try simp only [decide_eq_true_eq, decide_eq_false_iff_not, Bool.not_eq_true', Bool.not_eq_false', Bool.not_eq_true, Bool.not_eq_false, Int.not_lt, Int.not_le, Nat.not_lt, Nat.not_le, Bool.not_true, Bool.not_false, Bool.true_eq_false, Bool.false_eq_true] at hg9
   refine vc_y rfl rfl (y_mv rfl) ?_
   refine vc_y rfl rfl (y_geq rfl rfl) ?_
   refine vc_e (e_mvb rfl rfl rfl ?_ ?_)
   ·
    intro hg12
    try simp only [decide_eq_true_eq, decide_eq_false_iff_not, Bool.not_eq_true', Bool.not_eq_false', Bool.not_eq_true, Bool.not_eq_false, Int.not_lt, Int.not_le, Nat.not_lt, Nat.not_le, Bool.not_true, Bool.not_false, Bool.true_eq_false, Bool.false_eq_true] at hg12
    refine vc_y rfl rfl (y_mv rfl) ?_
    refine vc_y rfl rfl (y_leq rfl rfl) ?_
    refine vc_y rfl rfl (y_pickt rfl rfl) ?_
    refine vc_y rfl rfl (y_pickf rfl rfl) ?_
    refine vc_e (e_mvb rfl rfl rfl ?_ ?_)
    ·
     intro hg17
     try simp only [decide_eq_true_eq, decide_eq_false_iff_not, Bool.not_eq_true', Bool.not_eq_false', Bool.not_eq_true, Bool.not_eq_false, Int.not_lt, Int.not_le, Nat.not_lt, Nat.not_le, Bool.not_true, Bool.not_false, Bool.true_eq_false, Bool.false_eq_true] at hg17
     iterate 2 refine vc_e (e_skip rfl rfl ?_)
     refine vc_y rfl rfl (y_pickt rfl rfl) ?_
     refine vc_y rfl rfl (y_as rfl) ?_
     refine vc_end (vq_then (vc_keep [(2, _)] ⟨rfl, trivial⟩ (vc_ret ?_)))
     refine vq_ret1 st (.inl rfl) results75 (.tmp rfl) ?_
     refine ⟨_, rfl, ?_⟩
     exact ⟨by rw [Value.bool.injEq, Bool.eq_iff_iff]; simp only [isLetter, decide_eq_true_eq, true_iff, Bool.false_eq_true, false_iff]; omega, rfl⟩
    ·
     intro hg17
     try simp only [decide_eq_true_eq, decide_eq_false_iff_not, Bool.not_eq_true', Bool.not_eq_false', Bool.not_eq_true, Bool.not_eq_false, Int.not_lt, Int.not_le, Nat.not_lt, Nat.not_le, Bool.not_true, Bool.not_false, Bool.true_eq_false, Bool.false_eq_true] at hg17
     refine vc_y rfl rfl (y_mv rfl) ?_
     refine vc_y rfl rfl (y_eqi rfl rfl) ?_
     refine vc_y rfl rfl (y_pickf rfl rfl) ?_
     refine vc_y rfl rfl (y_as rfl) ?_
     refine vc_end (vq_then (vc_keep [(2, _)] ⟨rfl, trivial⟩ (vc_ret ?_)))
     refine vq_ret1 st (.inl rfl) results75 (.tmp rfl) ?_
     refine ⟨_, rfl, ?_⟩
     exact ⟨by rw [Value.bool.injEq, Bool.eq_iff_iff]; simp only [isLetter, decide_eq_true_eq, true_iff, Bool.false_eq_true, false_iff]; omega, rfl⟩
   ·
    intro hg12
    try simp only [decide_eq_true_eq, decide_eq_false_iff_not, Bool.not_eq_true', Bool.not_eq_false', Bool.not_eq_true, Bool.not_eq_false, Int.not_lt, Int.not_le, Nat.not_lt, Nat.not_le, Bool.not_true, Bool.not_false, Bool.true_eq_false, Bool.false_eq_true] at hg12
    iterate 2 refine vc_e (e_skip rfl rfl ?_)
    iterate 2 refine vc_y rfl rfl (y_pickf rfl rfl) ?_
    iterate 2 refine vc_y rfl rfl (y_mv rfl) ?_
    refine vc_y rfl rfl (y_eqi rfl rfl) ?_
    refine vc_y rfl rfl (y_pickf rfl rfl) ?_
    refine vc_y rfl rfl (y_as rfl) ?_
    refine vc_end (vq_then (vc_keep [(2, _)] ⟨rfl, trivial⟩ (vc_ret ?_)))
    refine vq_ret1 st (.inl rfl) results75 (.tmp rfl) ?_
    refine ⟨_, rfl, ?_⟩
    exact ⟨by rw [Value.bool.injEq, Bool.eq_iff_iff]; simp only [isLetter, decide_eq_true_eq, true_iff, Bool.false_eq_true, false_iff]; omega, rfl⟩
 ·
  intro hg5
  try simp only [decide_eq_true_eq, decide_eq_false_iff_not, Bool.not_eq_true', Bool.not_eq_false', Bool.not_eq_true, Bool.not_eq_false, Int.not_lt, Int.not_le, Nat.not_lt, Nat.not_le, Bool.not_true, Bool.not_false, Bool.true_eq_false, Bool.false_eq_true] at hg5
  iterate 2 refine vc_e (e_skip rfl rfl ?_)
  refine vc_y rfl rfl (y_pickf rfl rfl) ?_
  iterate 2 refine vc_y rfl rfl (y_mv rfl) ?_
  refine vc_y rfl rfl (y_geq rfl rfl) ?_
  refine vc_e (e_mvb rfl rfl rfl ?_ ?_)
  ·
   intro hg12
   try simp only [decide_eq_true_eq, decide_eq_false_iff_not, Bool.not_eq_true', Bool.not_eq_false', Bool.not_eq_true, Bool.not_eq_false, Int.not_lt, Int.not_le, Nat.not_lt, Nat.not_le, Bool.not_true, Bool.not_false, Bool.true_eq_false, Bool.false_eq_true] at hg12
   refine vc_y rfl rfl (y_mv rfl) ?_
   refine vc_y rfl rfl (y_leq rfl rfl) ?_
   refine vc_y rfl rfl (y_pickt rfl rfl) ?_
   refine vc_y rfl rfl (y_pickf rfl rfl) ?_
   refine vc_e (e_mvb rfl rfl rfl ?_ ?_)
   ·
    intro hg17
    try simp only [decide_eq_true_eq, decide_eq_false_iff_not, Bool.not_eq_true', Bool.not_eq_false', Bool.not_eq_true, Bool.not_eq_false, Int.not_lt, Int.not_le, Nat.not_lt, Nat.not_le, Bool.not_true, Bool.not_false, Bool.true_eq_false, Bool.false_eq_true] at hg17
    iterate 2 refine vc_e (e_skip rfl rfl ?_)
    refine vc_y rfl rfl (y_pickt rfl rfl) ?_
    refine vc_y rfl rfl (y_as rfl) ?_
    refine vc_end (vq_then (vc_keep [(2, _)] ⟨rfl, trivial⟩ (vc_ret ?_)))
    refine vq_ret1 st (.inl rfl) results75 (.tmp rfl) ?_
    refine ⟨_, rfl, ?_⟩
    exact ⟨by rw [Value.bool.injEq, Bool.eq_iff_iff]; simp only [isLetter, decide_eq_true_eq, true_iff, Bool.false_eq_true, false_iff]; omega, rfl⟩
   ·
    intro hg17
    try simp only [decide_eq_true_eq, decide_eq_false_iff_not, Bool.not_eq_true', Bool.not_eq_false', Bool.not_eq_true, Bool.not_eq_false, Int.not_lt, Int.not_le, Nat.not_lt, Nat.not_le, Bool.not_true, Bool.not_false, Bool.true_eq_false, Bool.false_eq_true] at hg17
    refine vc_y rfl rfl (y_mv rfl) ?_
    refine vc_y rfl rfl (y_eqi rfl rfl) ?_
    refine vc_y rfl rfl (y_pickf rfl rfl) ?_
    refine vc_y rfl rfl (y_as rfl) ?_
    refine vc_end (vq_then (vc_keep [(2, _)] ⟨rfl, trivial⟩ (vc_ret ?_)))
    refine vq_ret1 st (.inl rfl) results75 (.tmp rfl) ?_
    refine ⟨_, rfl, ?_⟩
    exact ⟨by rw [Value.bool.injEq, Bool.eq_iff_iff]; simp only [isLetter, decide_eq_true_eq, true_iff, Bool.false_eq_true, false_iff]; omega, rfl⟩
  ·
   intro hg12
   try simp only [decide_eq_true_eq, decide_eq_false_iff_not, Bool.not_eq_true', Bool.not_eq_false', Bool.not_eq_true, Bool.not_eq_false, Int.not_lt, Int.not_le, Nat.not_lt, Nat.not_le, Bool.not_true, Bool.not_false, Bool.true_eq_false, Bool.false_eq_true] at hg12
   iterate 2 refine vc_e (e_skip rfl rfl ?_)
   iterate 2 refine vc_y rfl rfl (y_pickf rfl rfl) ?_
   iterate 2 refine vc_y rfl rfl (y_mv rfl) ?_
   refine vc_y rfl rfl (y_eqi rfl rfl) ?_
   refine vc_y rfl rfl (y_pickf rfl rfl) ?_
   refine vc_y rfl rfl (y_as rfl) ?_
   refine vc_end (vq_then (vc_keep [(2, _)] ⟨rfl, trivial⟩ (vc_ret ?_)))
   refine vq_ret1 st (.inl rfl) results75 (.tmp rfl) ?_
   refine ⟨_, rfl, ?_⟩
   exact ⟨by rw [Value.bool.injEq, Bool.eq_iff_iff]; simp only [isLetter, decide_eq_true_eq, true_iff, Bool.false_eq_true, false_iff]; omega, rfl⟩

theorem rblank_any (c : UInt8) (w : World) : Ret Tryz.prog 74 [.int .u8 (c.toNat : Int)] w fun v w' => v = .bool (isBlank c) ∧ w' = w := by
 refine ret_of [_] func74 rfl ntmps74 rfl ?_
 have st := St.init w []
 refine vc_seq ?_
 refine vc_region ?_
 refine vc_y rfl rfl (y_as rfl) ?_
 refine vc_end (vq_then (vc_keep [(0, _)] ⟨rfl, trivial⟩ (vc_seq ?_)))
 refine vc_region ?_
 refine vc_y rfl rfl (y_mv rfl) ?_
 refine vc_y rfl rfl (y_eqi rfl rfl) ?_
 refine vc_e (e_mvb rfl rfl rfl ?_ ?_)
 ·
  intro hg5
  try simp only [decide_eq_true_eq, decide_eq_false_iff_not, Bool.not_eq_true', Bool.not_eq_false', Bool.not_eq_true, Bool.not_eq_false, Int.not_lt, Int.not_le, Nat.not_lt, Nat.not_le, Bool.not_true, Bool.not_false, Bool.true_eq_false, Bool.false_eq_true] at hg5
  iterate 2 refine vc_e (e_skip rfl rfl ?_)
  refine vc_y rfl rfl (y_pickt rfl rfl) ?_
  refine vc_y rfl rfl (y_mv rfl) ?_
  iterate 2 refine vc_e (e_skip rfl rfl ?_)
  refine vc_y rfl rfl (y_pickt rfl rfl) ?_
  refine vc_y rfl rfl (y_mv rfl) ?_
  iterate 2 refine vc_e (e_skip rfl rfl ?_)
  refine vc_y rfl rfl (y_pickt rfl rfl) ?_
  refine vc_y rfl rfl (y_as rfl) ?_
  refine vc_end (vq_then (vc_keep [(2, _)] ⟨rfl, trivial⟩ (vc_ret ?_)))
  refine vq_ret1 st (.inl rfl) results74 (.tmp rfl) ?_
  refine ⟨_, rfl, ?_⟩
  exact ⟨by rw [Value.bool.injEq, Bool.eq_iff_iff]; simp only [isBlank, decide_eq_true_eq, true_iff, Bool.false_eq_true, false_iff]; omega, rfl⟩
 ·
  intro hg5
  try simp only [decide_eq_true_eq, decide_eq_false_iff_not, Bool.not_eq_true', Bool.not_eq_false', Bool.not_eq_true, Bool.not_eq_false, Int.not_lt, Int.not_le, Nat.not_lt, Nat.not_le, Bool.not_true, Bool.not_false, Bool.true_eq_false, Bool.false_eq_true] at hg5
  refine vc_y rfl rfl (y_mv rfl) ?_
  refine vc_y rfl rfl (y_eqi rfl rfl) ?_
  refine vc_y rfl rfl (y_pickf rfl rfl) ?_
  refine vc_e (e_mvb rfl rfl rfl ?_ ?_)
  ·
   intro hg9
   try simp only [decide_eq_true_eq, decide_eq_false_iff_not, Bool.not_eq_true', Bool.not_eq_false', Bool.not_eq_true, Bool.not_eq_false, Int.not_lt, Int.not_le, Nat.not_lt, Nat.not_le, Bool.not_true, Bool.not_false, Bool.true_eq_false, Bool.false_eq_true] at hg9
   iterate 2 refine vc_e (e_skip rfl rfl ?_)
   refine vc_y rfl rfl (y_pickt rfl rfl) ?_
   refine vc_y rfl rfl (y_mv rfl) ?_
   iterate 2 refine vc_e (e_skip rfl rfl ?_)
   refine vc_y rfl rfl (y_pickt rfl rfl) ?_
   refine vc_y rfl rfl (y_as rfl) ?_
   refine vc_end (vq_then (vc_keep [(2, _)] ⟨rfl, trivial⟩ (vc_ret ?_)))
   refine vq_ret1 st (.inl rfl) results74 (.tmp rfl) ?_
   refine ⟨_, rfl, ?_⟩
   exact ⟨by rw [Value.bool.injEq, Bool.eq_iff_iff]; simp only [isBlank, decide_eq_true_eq, true_iff, Bool.false_eq_true, false_iff]; omega, rfl⟩
  ·
   intro hg9
   try simp only [decide_eq_true_eq, decide_eq_false_iff_not, Bool.not_eq_true', Bool.not_eq_false', Bool.not_eq_true, Bool.not_eq_false, Int.not_lt, Int.not_le, Nat.not_lt, Nat.not_le, Bool.not_true, Bool.not_false, Bool.true_eq_false, Bool.false_eq_true] at hg9
   refine vc_y rfl rfl (y_mv rfl) ?_
   refine vc_y rfl rfl (y_eqi rfl rfl) ?_
   refine vc_y rfl rfl (y_pickf rfl rfl) ?_
   refine vc_e (e_mvb rfl rfl rfl ?_ ?_)
   ·
    intro hg13
    try simp only [decide_eq_true_eq, decide_eq_false_iff_not, Bool.not_eq_true', Bool.not_eq_false', Bool.not_eq_true, Bool.not_eq_false, Int.not_lt, Int.not_le, Nat.not_lt, Nat.not_le, Bool.not_true, Bool.not_false, Bool.true_eq_false, Bool.false_eq_true] at hg13
    iterate 2 refine vc_e (e_skip rfl rfl ?_)
    refine vc_y rfl rfl (y_pickt rfl rfl) ?_
    refine vc_y rfl rfl (y_as rfl) ?_
    refine vc_end (vq_then (vc_keep [(2, _)] ⟨rfl, trivial⟩ (vc_ret ?_)))
    refine vq_ret1 st (.inl rfl) results74 (.tmp rfl) ?_
    refine ⟨_, rfl, ?_⟩
    exact ⟨by rw [Value.bool.injEq, Bool.eq_iff_iff]; simp only [isBlank, decide_eq_true_eq, true_iff, Bool.false_eq_true, false_iff]; omega, rfl⟩
   ·
    intro hg13
    try simp only [decide_eq_true_eq, decide_eq_false_iff_not, Bool.not_eq_true', Bool.not_eq_false', Bool.not_eq_true, Bool.not_eq_false, Int.not_lt, Int.not_le, Nat.not_lt, Nat.not_le, Bool.not_true, Bool.not_false, Bool.true_eq_false, Bool.false_eq_true] at hg13
    refine vc_y rfl rfl (y_mv rfl) ?_
    refine vc_y rfl rfl (y_eqi rfl rfl) ?_
    refine vc_y rfl rfl (y_pickf rfl rfl) ?_
    refine vc_y rfl rfl (y_as rfl) ?_
    refine vc_end (vq_then (vc_keep [(2, _)] ⟨rfl, trivial⟩ (vc_ret ?_)))
    refine vq_ret1 st (.inl rfl) results74 (.tmp rfl) ?_
    refine ⟨_, rfl, ?_⟩
    exact ⟨by rw [Value.bool.injEq, Bool.eq_iff_iff]; simp only [isBlank, decide_eq_true_eq, true_iff, Bool.false_eq_true, false_iff]; omega, rfl⟩

end Go.Proofs.YtggnfanphcaamaaGreatDoor


namespace Go.Proofs.YtggnfanphcaamaaGreatDoor
open Go.RowKit Sx LexS ParS
set_option linter.unusedVariables false
set_option linter.unusedSimpArgs false

theorem known_any (k : Int) (w : World) : Ret Tryz.prog 106 [.int .u8 k] w fun v w' => v = .bool (knownOp k) ∧ w' = w := by
 refine ret_of [_] Tryz.func106 rfl Tryz.ntmps106 rfl ?_
 have st := St.init w []
 refine vc_seq ?_
 refine vc_region ?_
 refine vc_y rfl rfl (y_as rfl) ?_
 refine vc_end (vq_then (vc_keep [(0, _)] ⟨rfl, trivial⟩ (vc_seq ?_)))
 refine vc_region ?_
 refine vc_y rfl rfl (y_mv rfl) ?_
 refine vc_y rfl rfl (y_gtr rfl rfl) ?_
 refine vc_e (e_mvb rfl rfl rfl ?_ ?_)
 ·
  intro hg5
  try simp only [decide_eq_true_eq, decide_eq_false_iff_not, Bool.not_eq_true', Bool.not_eq_false', Bool.not_eq_true, Bool.not_eq_false, Int.not_lt, Int.not_le, Nat.not_lt, Nat.not_le, Bool.not_true, Bool.not_false, Bool.true_eq_false, Bool.false_eq_true] at hg5
  refine vc_y rfl rfl (y_mv rfl) ?_
  refine vc_y rfl rfl (y_lss rfl rfl) ?_
  refine vc_y rfl rfl (y_pickt rfl rfl) ?_
  refine vc_y rfl rfl (y_as rfl) ?_
  refine vc_end (vq_then (vc_keep [(2, _)] ⟨rfl, trivial⟩ (vc_ret ?_)))
  refine vq_ret1 st (.inl rfl) Tryz.results106 (.tmp rfl) ?_
  refine ⟨_, rfl, ?_⟩
  refine ⟨?_, rfl⟩
  congr 1
  unfold knownOp
  first | (rw [Bool.eq_iff_iff]; simp; omega) | (symm; simp; omega)
 ·
  intro hg5
  try simp only [decide_eq_true_eq, decide_eq_false_iff_not, Bool.not_eq_true', Bool.not_eq_false', Bool.not_eq_true, Bool.not_eq_false, Int.not_lt, Int.not_le, Nat.not_lt, Nat.not_le, Bool.not_true, Bool.not_false, Bool.true_eq_false, Bool.false_eq_true] at hg5
  iterate 2 refine vc_e (e_skip rfl rfl ?_)
  refine vc_y rfl rfl (y_pickf rfl rfl) ?_
  refine vc_y rfl rfl (y_as rfl) ?_
  refine vc_end (vq_then (vc_keep [(2, _)] ⟨rfl, trivial⟩ (vc_ret ?_)))
  refine vq_ret1 st (.inl rfl) Tryz.results106 (.tmp rfl) ?_
  refine ⟨_, rfl, ?_⟩
  refine ⟨?_, rfl⟩
  congr 1
  unfold knownOp
  first | (rw [Bool.eq_iff_iff]; simp; omega) | (symm; simp; omega)

theorem two_any (k : Int) (w : World) : Ret Tryz.prog 105 [.int .u8 k] w fun v w' => v = .bool (twoOp k) ∧ w' = w := by
 refine ret_of [_] Tryz.func105 rfl Tryz.ntmps105 rfl ?_
 have st := St.init w []
 refine vc_seq ?_
 refine vc_region ?_
 refine vc_y rfl rfl (y_as rfl) ?_
 refine vc_end (vq_then (vc_keep [(0, _)] ⟨rfl, trivial⟩ (vc_seq ?_)))
 refine vc_region ?_
 refine vc_y rfl rfl (y_mv rfl) ?_
 refine vc_e (e_call [_] rfl rfl Tryz.call106 rfl (known_any _ _) ?_)
 rintro _ _ ⟨rfl, rfl⟩
 refine vc_e (e_mvb rfl rfl rfl ?_ ?_)
 ·
  intro hg5
  try simp only [decide_eq_true_eq, decide_eq_false_iff_not, Bool.not_eq_true', Bool.not_eq_false', Bool.not_eq_true, Bool.not_eq_false, Int.not_lt, Int.not_le, Nat.not_lt, Nat.not_le, Bool.not_true, Bool.not_false, Bool.true_eq_false, Bool.false_eq_true] at hg5
  refine vc_y rfl rfl (y_mv rfl) ?_
  refine vc_y rfl rfl (y_nei rfl rfl) ?_
  refine vc_y rfl rfl (y_pickt rfl rfl) ?_
  refine vc_e (e_mvb rfl rfl rfl ?_ ?_)
  ·
   intro hg9
   try simp only [decide_eq_true_eq, decide_eq_false_iff_not, Bool.not_eq_true', Bool.not_eq_false', Bool.not_eq_true, Bool.not_eq_false, Int.not_lt, Int.not_le, Nat.not_lt, Nat.not_le, Bool.not_true, Bool.not_false, Bool.true_eq_false, Bool.false_eq_true] at hg9
   refine vc_y rfl rfl (y_mv rfl) ?_
   refine vc_y rfl rfl (y_nei rfl rfl) ?_
   refine vc_y rfl rfl (y_pickt rfl rfl) ?_
   refine vc_y rfl rfl (y_as rfl) ?_
   refine vc_end (vq_then (vc_keep [(2, _)] ⟨rfl, trivial⟩ (vc_ret ?_)))
   refine vq_ret1 st (.inl rfl) Tryz.results105 (.tmp rfl) ?_
   refine ⟨_, rfl, ?_⟩
   refine ⟨?_, rfl⟩
   show Value.bool _ = Value.bool _
   congr 1
   unfold knownOp at *
   unfold twoOp
   simp only [decide_eq_true_eq, decide_eq_false_iff_not, Bool.not_eq_true', Bool.not_eq_false'] at *
   first | (symm; rw [decide_eq_false_iff_not]; omega) | (rw [Bool.eq_iff_iff]; simp only [Bool.not_eq_true', decide_eq_false_iff_not, decide_eq_true_eq]; omega)
  ·
   intro hg9
   try simp only [decide_eq_true_eq, decide_eq_false_iff_not, Bool.not_eq_true', Bool.not_eq_false', Bool.not_eq_true, Bool.not_eq_false, Int.not_lt, Int.not_le, Nat.not_lt, Nat.not_le, Bool.not_true, Bool.not_false, Bool.true_eq_false, Bool.false_eq_true] at hg9
   iterate 2 refine vc_e (e_skip rfl rfl ?_)
   refine vc_y rfl rfl (y_pickf rfl rfl) ?_
   refine vc_y rfl rfl (y_as rfl) ?_
   refine vc_end (vq_then (vc_keep [(2, _)] ⟨rfl, trivial⟩ (vc_ret ?_)))
   refine vq_ret1 st (.inl rfl) Tryz.results105 (.tmp rfl) ?_
   refine ⟨_, rfl, ?_⟩
   refine ⟨?_, rfl⟩
   show Value.bool _ = Value.bool _
   congr 1
   unfold knownOp at *
   unfold twoOp
   simp only [decide_eq_true_eq, decide_eq_false_iff_not, Bool.not_eq_true', Bool.not_eq_false'] at *
   first | (symm; rw [decide_eq_false_iff_not]; omega) | (rw [Bool.eq_iff_iff]; simp only [Bool.not_eq_true', decide_eq_false_iff_not, decide_eq_true_eq]; omega)
 ·
  intro hg5
  try simp only [decide_eq_true_eq, decide_eq_false_iff_not, Bool.not_eq_true', Bool.not_eq_false', Bool.not_eq_true, Bool.not_eq_false, Int.not_lt, Int.not_le, Nat.not_lt, Nat.not_le, Bool.not_true, Bool.not_false, Bool.true_eq_false, Bool.false_eq_true] at hg5
  iterate 2 refine vc_e (e_skip rfl rfl ?_)
  refine vc_y rfl rfl (y_pickf rfl rfl) ?_
  refine vc_y rfl rfl (y_mv rfl) ?_
  iterate 2 refine vc_e (e_skip rfl rfl ?_)
  refine vc_y rfl rfl (y_pickf rfl rfl) ?_
  refine vc_y rfl rfl (y_as rfl) ?_
  refine vc_end (vq_then (vc_keep [(2, _)] ⟨rfl, trivial⟩ (vc_ret ?_)))
  refine vq_ret1 st (.inl rfl) Tryz.results105 (.tmp rfl) ?_
  refine ⟨_, rfl, ?_⟩
  refine ⟨?_, rfl⟩
  show Value.bool _ = Value.bool _
  congr 1
  unfold knownOp at *
  unfold twoOp
  simp only [decide_eq_true_eq, decide_eq_false_iff_not, Bool.not_eq_true', Bool.not_eq_false'] at *
  first | (symm; rw [decide_eq_false_iff_not]; omega) | (rw [Bool.eq_iff_iff]; simp only [Bool.not_eq_true', decide_eq_false_iff_not, decide_eq_true_eq]; omega)

theorem level_any (k : Int) (w : World) (hs : SigAt 1 w) : Ret Tryz.prog 102 [.int .u8 k] w fun v w' => v = .int .i64 (lvlO k) ∧ w' = w := by
 refine ret_of [_] Tryz.func102 rfl Tryz.ntmps102 rfl ?_
 have st := St.init w []
 refine vc_seq ?_
 refine vc_region ?_
 refine vc_y rfl rfl (y_as rfl) ?_
 refine vc_end (vq_then (vc_keep [(0, _)] ⟨rfl, trivial⟩ (vc_seq (vc_seq ?_))))
 refine vc_region ?_
 refine vc_y rfl rfl (y_mv rfl) ?_
 refine vc_e (e_call [_] rfl rfl Tryz.call106 rfl (known_any _ _) ?_)
 rintro _ _ ⟨rfl, rfl⟩
 refine vc_y rfl rfl (y_not rfl) ?_
 refine vc_end (vq_then (vc_keep [(0, _), (5, _)] ⟨rfl, rfl, trivial⟩ ?_))
 refine vc_ifs rfl ?_ ?_
 ·
  intro hc5
  try simp only [decide_eq_true_eq, decide_eq_false_iff_not, Bool.not_eq_true', Bool.not_eq_false', Bool.not_eq_true, Bool.not_eq_false, Int.not_lt, Int.not_le, Nat.not_lt, Nat.not_le, Bool.not_true, Bool.not_false, Bool.true_eq_false, Bool.false_eq_true] at hc5
  refine vc_seq ?_
  refine vc_region ?_
  refine vc_y rfl rfl (y_as rfl) ?_
  refine vc_end (vq_then (vc_keep [(2, _)] ⟨rfl, trivial⟩ (vc_ret (vq_then_ret ?_))))
  refine vq_ret1 st (.inl rfl) Tryz.results102 (.tmp rfl) ?_
  refine ⟨_, rfl, ?_⟩
  refine ⟨?_, rfl⟩
  unfold lvlO
  rw [if_neg (by simpa using hc5)]
 ·
  intro hc5
  try simp only [decide_eq_true_eq, decide_eq_false_iff_not, Bool.not_eq_true', Bool.not_eq_false', Bool.not_eq_true, Bool.not_eq_false, Int.not_lt, Int.not_le, Nat.not_lt, Nat.not_le, Bool.not_true, Bool.not_false, Bool.true_eq_false, Bool.false_eq_true] at hc5
  have hk : 0 < k ∧ k < 19 := by simpa [knownOp] using hc5
  obtain ⟨m, rfl⟩ : ∃ m : Nat, k = (m : Int) := ⟨k.toNat, by omega⟩
  refine vc_code_skip (vq_then (vc_keep [(0, _)] ⟨rfl, trivial⟩ (vc_seq ?_)))
  refine vc_region ?_
  refine vc_y rfl rfl (y_mv rfl) ?_
  refine vc_y rfl rfl (y_iaa (k := m) rfl rfl Tryz.underlying129 Tryz.sizeOf128 rfl (by omega)) ?_
  refine vc_y rfl rfl ((by first | exact y_faz (k := 1) rfl Tryz.underlying128 rfl rfl Tryz.sizeOf3 rfl | exact y_fa (k := 1) rfl Tryz.underlying128 rfl rfl Tryz.sizeOf3 rfl)) ?_
  refine vc_y rfl rfl ((by first | exact y_ldc rfl Tryz.isAgg3 (by have h := (hs m (by omega)).2; rw [Nat.zero_add]; exact h) | exact y_ld st 0 rfl Tryz.isAgg3 rfl rfl)) ?_
  refine vc_y rfl rfl (y_as rfl) ?_
  refine vc_end (vq_then (vc_keep [(2, _)] ⟨rfl, trivial⟩ (vc_ret ?_)))
  refine vq_ret1 st (.inl rfl) Tryz.results102 (.tmp rfl) ?_
  refine ⟨_, rfl, ?_⟩
  refine ⟨?_, rfl⟩
  unfold lvlO
  rw [if_pos (by simpa using hc5)]
  rfl

/-- no operator of two below 'j' has the sign -/
def noOp (s : List UInt8) (j : Nat) : Prop := ∀ k, k < j → (twoOp (k : Int) && decide (sgn k = s)) = false
theorem findO_at {s : List UInt8} {j : Nat} (hj : j < 19) (h : noOp s j) (h2 : twoOp (j : Int) = true) (h3 : sgn j = s) : findO s = some j := by
 unfold findO
 rw [List.find?_eq_some_iff_append]
 refine ⟨by simp [h2, h3], List.range j, (List.range' (j + 1) (18 - j)), ?_, fun k hk => (by have := h k (by simpa using hk); show (!(twoOp (k : Int) && decide (sgn k = s))) = true; rw [this]; rfl)⟩
 rw [List.range_eq_range', List.range_eq_range', show 19 = j + (19 - j) by omega, ← List.range'_append_1]
 rw [show 19 - j = (18 - j) + 1 by omega, List.range'_succ]
 simp
theorem findO_no {s : List UInt8} (h : noOp s 19) : findO s = none := by
 unfold findO
 rw [List.find?_eq_none]
 intro k hk
 have := h k (by simpa using hk)
 show ¬ (twoOp (k : Int) && decide (sgn k = s)) = true
 rw [this]; simp
theorem noOp_step {s : List UInt8} {j : Nat} (h : noOp s j) (h2 : (twoOp (j : Int) && decide (sgn j = s)) = false) : noOp s (j + 1) := fun k hk => by
 rcases Nat.lt_or_ge k j with h1 | h1
 ·
  exact h k h1
 ·
  obtain rfl : k = j := by omega
  exact h2

theorem find_any (s : List UInt8) (w : World) (hs : SigAt 1 w) : Ret Tryz.prog 101 [str s] w fun v w' => v = .tuple [.int .u8 (((findO s).getD 0 : Nat) : Int), .bool (findO s).isSome].toArray ∧ w' = w := by
 refine ret_of [_] Tryz.func101 rfl Tryz.ntmps101 rfl ?_
 have st := St.init w []
 obtain ⟨w0, rfl⟩ : ∃ w0, w0 = w := ⟨_, rfl⟩
 refine vc_seq ?_
 refine vc_region ?_
 iterate 2 refine vc_y rfl rfl (y_as rfl) ?_
 refine vc_end (vq_then (vc_keep [(0, _)] ⟨rfl, trivial⟩ (vc_seq (vc_seq ?_))))
 refine vc_region ?_
 refine vc_y rfl rfl (y_mv rfl) ?_
 refine vc_end (vq_then (vc_keep [(0, _), (5, _)] ⟨rfl, rfl, trivial⟩ (vc_block ?_)))
 refine vc_loop (w0 := w0) (M := []) (fun (j : Nat) => [(0, str s), (5, .int .u8 (j : Int))]) (fun _ => []) (fun j w' => j ≤ 19 ∧ noOp s j ∧ w' = w0) (fun j => 19 - j) 0 ⟨rfl, rfl, trivial⟩ st ⟨by simp, fun k hk => by omega, rfl⟩ ?_
 clear st
 rintro j w ⟨hj, hno, rfl⟩ st
 refine vc_seq ?_
 refine vc_region ?_
 refine vc_y rfl rfl (y_lss rfl rfl) ?_
 refine vc_end (vq_then (vc_keep [(0, _), (5, _), (6, _)] ⟨rfl, rfl, rfl, trivial⟩ (vc_seq ?_)))
 refine vc_ifs rfl ?_ ?_
 ·
  intro hc6
  try simp only [decide_eq_true_eq, decide_eq_false_iff_not, Bool.not_eq_true', Bool.not_eq_false', Bool.not_eq_true, Bool.not_eq_false, Int.not_lt, Int.not_le, Nat.not_lt, Nat.not_le, Bool.not_true, Bool.not_false, Bool.true_eq_false, Bool.false_eq_true] at hc6
  refine vc_code_skip (vq_then (vc_keep [(0, _), (5, _)] ⟨rfl, rfl, trivial⟩ (vc_seq (vc_block (vc_seq ?_)))))
  refine vc_region ?_
  refine vc_y rfl rfl (y_mv rfl) ?_
  refine vc_y rfl rfl (y_as rfl) ?_
  refine vc_end (vq_then (vc_keep [(0, _), (4, _), (5, _)] ⟨rfl, rfl, rfl, trivial⟩ (vc_seq ?_)))
  refine vc_region ?_
  refine vc_y rfl rfl (y_mv rfl) ?_
  refine vc_e (e_call [_] rfl rfl Tryz.call105 rfl (two_any _ _) ?_)
  rintro _ _ ⟨rfl, rfl⟩
  refine vc_e (e_mvb rfl rfl rfl ?_ ?_)
  ·
   intro hg10
   try simp only [decide_eq_true_eq, decide_eq_false_iff_not, Bool.not_eq_true', Bool.not_eq_false', Bool.not_eq_true, Bool.not_eq_false, Int.not_lt, Int.not_le, Nat.not_lt, Nat.not_le, Bool.not_true, Bool.not_false, Bool.true_eq_false, Bool.false_eq_true] at hg10
   refine vc_y rfl rfl (y_mv rfl) ?_
   refine vc_y rfl rfl (y_iaa (k := j) rfl rfl Tryz.underlying129 Tryz.sizeOf128 rfl (by omega)) ?_
   refine vc_y rfl rfl (y_fa0 rfl Tryz.underlying128 rfl rfl Tryz.sizeOf9 rfl) ?_
   refine vc_y rfl rfl ((by first | exact y_ldc rfl Tryz.isAgg9 (by have h := (hs j (by omega)).1; rw [Nat.zero_add]; exact h) | exact y_ld st 0 rfl Tryz.isAgg9 rfl rfl)) ?_
   refine vc_y rfl rfl (y_mv rfl) ?_
   refine vc_y rfl rfl (y_eqs rfl rfl) ?_
   refine vc_y rfl rfl (y_pickt rfl rfl) ?_
   refine vc_end (vq_then (vc_keep [(0, _), (4, _), (5, _), (17, _)] ⟨rfl, rfl, rfl, rfl, trivial⟩ ?_))
   refine vc_ifs rfl ?_ ?_
   ·
    intro hc17
    try simp only [decide_eq_true_eq, decide_eq_false_iff_not, Bool.not_eq_true', Bool.not_eq_false', Bool.not_eq_true, Bool.not_eq_false, Int.not_lt, Int.not_le, Nat.not_lt, Nat.not_le, Bool.not_true, Bool.not_false, Bool.true_eq_false, Bool.false_eq_true] at hc17
    refine vc_seq ?_
    refine vc_region ?_
    refine vc_y rfl rfl (y_mv rfl) ?_
    iterate 2 refine vc_y rfl rfl (y_as rfl) ?_
    refine vc_end (vq_then (vc_keep [(2, _), (3, _)] ⟨rfl, rfl, trivial⟩ (vc_ret (vq_block_ret (vq_then_ret (vq_then_ret (vq_block_ret (vq_then_ret ?_))))))))
    refine vq_ret2 st (.inl rfl) Tryz.results101 (.tmp rfl) (.tmp rfl) ?_
    refine ⟨_, rfl, ?_⟩
    have he : findO s = some j := findO_at (by omega) hno (by simp_all) (by simp_all)
    rw [he]
    exact ⟨rfl, rfl⟩
   ·
    intro hc17
    try simp only [decide_eq_true_eq, decide_eq_false_iff_not, Bool.not_eq_true', Bool.not_eq_false', Bool.not_eq_true, Bool.not_eq_false, Int.not_lt, Int.not_le, Nat.not_lt, Nat.not_le, Bool.not_true, Bool.not_false, Bool.true_eq_false, Bool.false_eq_true] at hc17
    refine vc_code_skip (vq_block (vq_then (vc_keep [(0, _), (5, _)] ⟨rfl, rfl, trivial⟩ ?_)))
    refine vc_region ?_
    refine vc_y rfl rfl (y_addk rfl rfl (by rw [wrap_u8]; omega : _ = ((j + 1 : Nat) : Int))) ?_
    refine vc_y rfl rfl (y_mv rfl) ?_
    refine vc_end ?_
    refine vq_again (j + 1)  ⟨rfl, rfl, trivial⟩ st ?_ ?_
    ·
     exact ⟨by omega, noOp_step hno (by simp_all), rfl⟩
    ·
     omega
  ·
   intro hg10
   try simp only [decide_eq_true_eq, decide_eq_false_iff_not, Bool.not_eq_true', Bool.not_eq_false', Bool.not_eq_true, Bool.not_eq_false, Int.not_lt, Int.not_le, Nat.not_lt, Nat.not_le, Bool.not_true, Bool.not_false, Bool.true_eq_false, Bool.false_eq_true] at hg10
   iterate 6 refine vc_e (e_skip rfl rfl ?_)
   refine vc_y rfl rfl (y_pickf rfl rfl) ?_
   refine vc_end (vq_then (vc_keep [(0, _), (4, _), (5, _), (17, _)] ⟨rfl, rfl, rfl, rfl, trivial⟩ ?_))
   refine vc_iff rfl ?_
   refine vc_code_skip (vq_block (vq_then (vc_keep [(0, _), (5, _)] ⟨rfl, rfl, trivial⟩ ?_)))
   refine vc_region ?_
   refine vc_y rfl rfl (y_addk rfl rfl (by rw [wrap_u8]; omega : _ = ((j + 1 : Nat) : Int))) ?_
   refine vc_y rfl rfl (y_mv rfl) ?_
   refine vc_end ?_
   refine vq_again (j + 1)  ⟨rfl, rfl, trivial⟩ st ?_ ?_
   ·
    exact ⟨by omega, noOp_step hno (by simp_all), rfl⟩
   ·
    omega
 ·
  intro hc6
  try simp only [decide_eq_true_eq, decide_eq_false_iff_not, Bool.not_eq_true', Bool.not_eq_false', Bool.not_eq_true, Bool.not_eq_false, Int.not_lt, Int.not_le, Nat.not_lt, Nat.not_le, Bool.not_true, Bool.not_false, Bool.true_eq_false, Bool.false_eq_true] at hc6
  refine vc_exit (vq_then_exit (vq_then_exit (vq_block_exit (vq_then (vc_keep [] trivial (vc_seq ?_))))))
  refine vc_region ?_
  iterate 2 refine vc_y rfl rfl (y_as rfl) ?_
  refine vc_end (vq_then (vc_keep [(2, _), (3, _)] ⟨rfl, rfl, trivial⟩ (vc_ret ?_)))
  refine vq_ret2 st (.inl rfl) Tryz.results101 (.tmp rfl) (.tmp rfl) ?_
  refine ⟨_, rfl, ?_⟩
  obtain rfl : j = 19 := by omega
  have he : findO s = none := findO_no hno
  rw [he]
  exact ⟨rfl, rfl⟩

end Go.Proofs.YtggnfanphcaamaaGreatDoor


/- A parser's trees: operators that wait; new rows of one and of two. -/
namespace Sx
open Go Go.RowKit LexS ParS
set_option linter.unusedVariables false
set_option linter.unusedSimpArgs false

/-- the cells of an operator that waits, with its first side -/
abbrev pdC (p : Pend) (oa : Option Addr) (cap : Nat) : List Value := [.int .u8 (p.1 : Int), .int .i64 (p.2.1 : Int), .int .u8 p.2.2.k, .int .u8 p.2.2.op, .int .i64 p.2.2.wd, str p.2.2.nm, .slice oa p.2.2.kids.length cap, .int .i64 p.2.2.a]
/-- operators that wait: their cells, the top one's last; the blocks of their first sides -/
def PdSs (tE : Nat) (w : World) : List Pend → List Value → List Nat → Prop
  | [], xs, S => xs = [] ∧ S = []
  | p :: W, xs, S => ∃ oa cap S1 xr Sr, xs = xr ++ pdC p oa cap ∧ S = Sr ++ S1 ∧ ExR tE w oa cap p.2.2.kids S1 ∧ PdSs tE w W xr Sr
section
variable {tE : Nat} {w w' : World}
theorem PdSs.len : ∀ {W : List Pend} {xs : List Value} {S : List Nat}, PdSs tE w W xs S → xs.length = W.length * 8
  | [], xs, S, h => by rw [h.1]; rfl
  | p :: W, xs, S, ⟨oa, cap, S1, xr, Sr, e1, e2, h1, h2⟩ => by
    have := PdSs.len h2
    rw [e1]; simp; omega
theorem PdSs.lt : ∀ {W : List Pend} {xs : List Value} {S : List Nat}, PdSs tE w W xs S → ∀ b ∈ S, b < w.heap.size
  | [], xs, S, h, b, hb => by rw [h.2] at hb; simp at hb
  | p :: W, xs, S, ⟨oa, cap, S1, xr, Sr, e1, e2, h1, h2⟩, b, hb => by
    rw [e2] at hb
    rcases List.mem_append.1 hb with h | h
    · exact PdSs.lt h2 b h
    · exact h1.lt b h
theorem PdSs.kept : ∀ {W : List Pend} {xs : List Value} {S : List Nat}, PdSs tE w W xs S → (∀ b ∈ S, w'.heap[b]? = w.heap[b]?) → PdSs tE w' W xs S
  | [], xs, S, h, _ => h
  | p :: W, xs, S, ⟨oa, cap, S1, xr, Sr, e1, e2, h1, h2⟩, hk => by
    subst e2
    exact ⟨oa, cap, S1, xr, Sr, e1, rfl, h1.kept (fun b hb => hk b (List.mem_append.2 (.inr hb))), PdSs.kept h2 (fun b hb => hk b (List.mem_append.2 (.inl hb)))⟩
theorem holds_pd {base : Nat} {W : List Pend} {xs : List Value} {S : List Nat} (h : PdSs tE w W xs S) : (Res.tree S fun w => PdSs tE w W xs S).holds base w := holds_of h h.lt (fun a b h hk => h.kept hk)

theorem loc_ex {oa : Option Addr} {cap : Nat} {es : List Ex} {S : List Nat} : Loc S fun w => ExR tE w oa cap es S := loc_of fun a b h hk => h.kept hk
theorem loc_pd {W : List Pend} {xs : List Value} {S : List Nat} : Loc S fun w => PdSs tE w W xs S := loc_of fun a b h hk => h.kept hk
/-- a new block as a row -/
theorem own_new {b E sz len : Nat} {l : List Value} (h : w.heap[b]? = some (.cells l.toArray E (0, 0))) (hlen : l.length = len * sz) (hm : len ≤ maxLen) : w.ownsRow 0 E sz (.slice (some ⟨b, 0, none⟩) len len) len l := by
  refine ⟨hlen, .inr ⟨b, len, l.toArray, rfl, Nat.zero_le _, h, Nat.le_refl _, hm, by simpa using hlen, ?_⟩⟩
  rw [← hlen]
  simp
theorem ex_one {b : Nat} {x : Ex} {ox : Option Addr} {cx : Nat} {S : List Nat} (h : w.heap[b]? = some (.cells (exC x ox cx).toArray tE (0, 0))) (hx : ExR tE w ox cx x.kids S) : ExR tE w (some ⟨b, 0, none⟩) 1 [x] (b :: S) :=
  ⟨exC x ox cx, S, own_new h rfl (by simp [maxLen]), rfl, ExSs_one.2 (ExS_iff.2 ⟨ox, cx, rfl, hx⟩)⟩
theorem ex_two {b : Nat} {x y : Ex} {ox oy : Option Addr} {cx cy : Nat} {S T : List Nat} (h : w.heap[b]? = some (.cells (exC x ox cx ++ exC y oy cy).toArray tE (0, 0))) (hx : ExR tE w ox cx x.kids S) (hy : ExR tE w oy cy y.kids T) :
    ExR tE w (some ⟨b, 0, none⟩) 2 [x, y] (b :: (S ++ T)) :=
  ⟨exC x ox cx ++ exC y oy cy, S ++ T, own_new h rfl (by simp [maxLen]), rfl, (ExSs_app (a := [x]) (b := [y])).2 ⟨_, _, S, T, rfl, rfl, ExSs_one.2 (ExS_iff.2 ⟨ox, cx, rfl, hx⟩), ExSs_one.2 (ExS_iff.2 ⟨oy, cy, rfl, hy⟩)⟩⟩
end
section
variable {w w' w0 : World} {M : List Nat} {hs : List Res}
/-- an owned row, shortened -/
theorem own_take {base E size n m cap : Nat} {oa : Option Addr} {xs ys : List Value} (h : w.ownsRow base E size (.slice oa n cap) n (xs ++ ys)) (hm : m ≤ n) (hx : xs.length = m * size) : w.ownsRow base E size (.slice oa m cap) m xs := by
  rcases h with ⟨hl, h⟩
  refine ⟨hx, ?_⟩
  rcases h with ⟨e, h0⟩ | ⟨g, c, cur, e, hb, hg, hnc, hcm, hcs, htake⟩
  · simp only [Value.slice.injEq] at e
    obtain ⟨rfl, e2, rfl⟩ := e
    obtain rfl : m = 0 := by omega
    exact .inl ⟨rfl, rfl⟩
  · simp only [Value.slice.injEq] at e
    obtain ⟨rfl, -, rfl⟩ := e
    refine .inr ⟨g, cap, cur, rfl, hb, hg, by omega, hcm, hcs, ?_⟩
    have h1 : cur.toList.take (n * size) = xs ++ ys := by simpa using htake
    have h2 : m * size ≤ n * size := Nat.mul_le_mul_right _ hm
    have h3 : cur.toList.take (m * size) = xs := by
      have : cur.toList.take (m * size) = (cur.toList.take (n * size)).take (m * size) := by rw [List.take_take, Nat.min_eq_left h2]
      rw [this, h1, ← hx, List.take_left]
    simpa using h3
theorem own_cap {base E size n cap : Nat} {oa : Option Addr} {xs : List Value} (h : w.ownsRow base E size (.slice oa n cap) n xs) : n ≤ cap := by
  rcases h.2 with ⟨e, h0⟩ | ⟨g, c, cur, e, hb, hg, hnc, _⟩
  · omega
  · simp only [Value.slice.injEq] at e; omega
theorem own_some {base E size n cap : Nat} {oa : Option Addr} {xs : List Value} (h : w.ownsRow base E size (.slice oa n cap) n xs) (hn : 0 < n) : ∃ g, oa = some ⟨g, 0, none⟩ := by
  obtain ⟨g, c, e, -⟩ := own_form h hn
  simp only [Value.slice.injEq] at e
  exact ⟨g, e.1⟩
theorem app_at {α : Type} {xr l : List α} {k j : Nat} (h : xr.length = k) : (xr ++ l)[k + j]? = l[j]? := by rw [List.getElem?_append_right (by omega)]; congr 1; omega
theorem St.shrink {E size n m cap : Nat} {oa : Option Addr} {xs ys : List Value} (st : St w0 M (.own (.slice oa n cap) E size n (xs ++ ys) :: hs) w) (hm : m ≤ n) (hx : xs.length = m * size) : St w0 M (.own (.slice oa m cap) E size m xs :: hs) w :=
  st.turn0 (fun k hk => by rw [Res.at?, obk_own] at hk ⊢; exact hk) (own_take (st.res (i := 0) rfl) hm hx)
end

/-! ### what is parsed, so much having come -/
def contE (u : List Tok → PR Ex) (n : Nat) (W : List Pend) (x : Ex) (r : List Tok) : PR Ex := match flatE u n r with
  | .error f => .error f
  | .ok (l, r') => .ok (shunt l W x, r')
theorem exprW_cont (u : List Tok → PR Ex) (r : List Tok) : exprW u r = match u r with
    | .error f => .error f
    | .ok (x, r1) => contE u (r1.length + 1) [] x r1 := by
  unfold exprW contE
  cases u r with
  | error f => rfl
  | ok p => rfl
theorem redu_all : ∀ (lv lv' : Int) (W : List Pend) (x : Ex), redu true lv W x = redu true lv' W x
  | lv, lv', [], x => rfl
  | lv, lv', (op, a, l) :: W, x => by simp only [redu, true_or, if_true]; exact redu_all lv lv' W _
theorem contE_stop {u : List Tok → PR Ex} {n : Nat} {W : List Pend} {x z : Ex} {r : List Tok} {lv : Int} (h : opT (here r) = none) (hz : redu true lv W x = ([], z)) : contE u (n + 1) W x r = .ok (z, r) := by
  simp only [contE, flatE, h, shunt]
  rw [redu_all 0 lv, hz]
theorem contE_step {u : List Tok → PR Ex} {n : Nat} {W W' : List Pend} {x z : Ex} {r : List Tok} {op : Nat} (h : opT (here r) = some op) (hz : redu false (lvlO (op : Int)) W x = (W', z)) : contE u (n + 1) W x r = match u r.tail with
    | .error f => .error f
    | .ok (y, r') => contE u n ((op, (here r).at_, z) :: W') y r' := by
  simp only [contE, flatE, h]
  cases hu : u r.tail with
  | error f => rfl
  | ok p =>
    simp only
    cases hf : flatE u n p.2 with
    | error f => rfl
    | ok q => simp only [shunt]; rw [hz]
structure ESt where
  W : List Pend
  x : Ex
  r : List Tok
  n : Nat
  ow : Option Addr
  cw : Nat
  xs : List Value
  SW : List Nat
  ox : Option Addr
  cx : Nat
  Sx : List Nat
end Sx


/- The parser by operators that wait, and the one that climbs: the same trees. -/
namespace ParS
open Sx LexS
set_option linter.unusedVariables false
set_option linter.unusedSimpArgs false

abbrev Flat := Nat × Nat × Ex
/-- climbing along operators that are cut already -/
def climbL : Nat → Int → Ex → List Flat → Ex × List Flat
  | 0, lv, x, l => (x, l)
  | n + 1, lv, x, [] => (x, [])
  | n + 1, lv, x, (op, a, y) :: l => if lvlO (op : Int) < lv then (x, (op, a, y) :: l) else
      climbL n lv (binE op a x (climbL n (lvlO (op : Int) + 1) y l).1) (climbL n (lvlO (op : Int) + 1) y l).2
theorem climbL_len : ∀ (n : Nat) (lv : Int) (x : Ex) (l : List Flat), (climbL n lv x l).2.length ≤ l.length
  | 0, lv, x, l => Nat.le_refl _
  | n + 1, lv, x, [] => Nat.le_refl _
  | n + 1, lv, x, (op, a, y) :: l => by
    simp only [climbL]
    split
    · exact Nat.le_refl _
    · have h1 := climbL_len n (lvlO (op : Int) + 1) y l
      have h2 := climbL_len n lv (binE op a x (climbL n (lvlO (op : Int) + 1) y l).1) (climbL n (lvlO (op : Int) + 1) y l).2
      simp only [List.length_cons]; omega
theorem climbL_fuel : ∀ (n m : Nat) (lv : Int) (x : Ex) (l : List Flat), l.length < n → l.length < m → climbL n lv x l = climbL m lv x l
  | 0, m, lv, x, l, h, _ => by omega
  | n + 1, 0, lv, x, l, _, h => by omega
  | n + 1, m + 1, lv, x, [], _, _ => rfl
  | n + 1, m + 1, lv, x, (op, a, y) :: l, h1, h2 => by
    simp only [List.length_cons] at h1 h2
    simp only [climbL]
    rw [climbL_fuel n m (lvlO (op : Int) + 1) y l (by omega) (by omega)]
    split
    · rfl
    · have h3 := climbL_len m (lvlO (op : Int) + 1) y l
      exact climbL_fuel n m _ _ _ (by omega) (by omega)
/-- what waits, finished by climbing -/
def contW : List Pend → Ex → List Flat → Ex
  | [], x, l => (climbL (l.length + 1) 1 x l).1
  | (op, a, left) :: W, x, l => contW W (binE op a left (climbL (l.length + 1) (lvlO (op : Int) + 1) x l).1) (climbL (l.length + 1) (lvlO (op : Int) + 1) x l).2
theorem contW_nil : ∀ (W : List Pend) (x : Ex), contW W x [] = (redu true 0 W x).2
  | [], x => rfl
  | (op, a, left) :: W, x => by
    simp only [contW, redu, climbL, true_or, if_true]
    exact contW_nil W _
theorem contW_push (W : List Pend) (op a : Nat) (x y : Ex) (l : List Flat) (h1 : 1 ≤ lvlO (op : Int)) (h2 : ∀ p W', W = p :: W' → lvlO (p.1 : Int) < lvlO (op : Int)) : contW W x ((op, a, y) :: l) = contW ((op, a, x) :: W) y l := by
  have key : ∀ lv : Int, lv ≤ lvlO (op : Int) → climbL (((op, a, y) :: l).length + 1) lv x ((op, a, y) :: l) =
      climbL ((climbL (l.length + 1) (lvlO (op : Int) + 1) y l).2.length + 1) lv (binE op a x (climbL (l.length + 1) (lvlO (op : Int) + 1) y l).1) (climbL (l.length + 1) (lvlO (op : Int) + 1) y l).2 := by
    intro lv hlv
    simp only [List.length_cons, climbL]
    rw [if_neg (by omega)]
    have h3 := climbL_len (l.length + 1) (lvlO (op : Int) + 1) y l
    exact climbL_fuel _ _ _ _ _ (by omega) (by omega)
  cases W with
  | nil => simp only [contW]; rw [key 1 h1]
  | cons p W =>
    obtain ⟨o, b, left⟩ := p
    simp only [contW]
    rw [key (lvlO (o : Int) + 1) (by have := h2 _ _ rfl; simp at this; omega)]
theorem contW_pop (W : List Pend) (o b op a : Nat) (left x y : Ex) (l : List Flat) (h : lvlO (op : Int) ≤ lvlO (o : Int)) : contW ((o, b, left) :: W) x ((op, a, y) :: l) = contW W (binE o b left x) ((op, a, y) :: l) := by
  simp only [contW, List.length_cons, climbL]
  rw [if_pos (by omega)]
theorem shunt_step : ∀ (W : List Pend) (x : Ex) (op a : Nat) (y : Ex) (l : List Flat), 1 ≤ lvlO (op : Int) →
    contW W x ((op, a, y) :: l) = contW ((op, a, (redu false (lvlO (op : Int)) W x).2) :: (redu false (lvlO (op : Int)) W x).1) y l
  | [], x, op, a, y, l, h => contW_push [] op a x y l h (by simp)
  | (o, b, left) :: W, x, op, a, y, l, h => by
    by_cases hc : lvlO (op : Int) ≤ lvlO (o : Int)
    · rw [contW_pop W o b op a left x y l hc, shunt_step W _ op a y l h]
      simp only [redu, Bool.false_eq_true, false_or, hc, if_true]
    · simp only [redu, Bool.false_eq_true, false_or, hc, if_false]
      exact contW_push _ op a x y l h (by rintro p W' e; simp only [List.cons.injEq] at e; obtain ⟨rfl, rfl⟩ := e; simp; omega)
/-- every operator of the list binds -/
def FlatOk (l : List Flat) : Prop := ∀ p ∈ l, 1 ≤ lvlO (p.1 : Int)
theorem shunt_cont : ∀ (l : List Flat) (W : List Pend) (x : Ex), FlatOk l → shunt l W x = contW W x l
  | [], W, x, _ => by simp only [shunt]; rw [contW_nil]
  | (op, a, y) :: l, W, x, h => by
    simp only [shunt]
    rw [shunt_step W x op a y l (h _ (.head _)), shunt_cont l _ _ (fun p hp => h p (.tail _ hp))]
theorem shunt_climb (l : List Flat) (x : Ex) (h : FlatOk l) : shunt l [] x = (climbL (l.length + 1) 1 x l).1 := shunt_cont l [] x h
theorem climbL_all : ∀ (n : Nat) (x : Ex) (l : List Flat), l.length < n → FlatOk l → (climbL n 1 x l).2 = []
  | 0, x, l, h, _ => by omega
  | n + 1, x, [], _, _ => rfl
  | n + 1, x, (op, a, y) :: l, h, hf => by
    simp only [List.length_cons] at h
    simp only [climbL]
    rw [if_neg (by have := hf _ (.head _); simp at this; omega)]
    have h1 := climbL_len n (lvlO (op : Int) + 1) y l
    refine climbL_all n _ _ (by omega) (fun p hp => ?_)
    exact hf p (.tail _ (climbL_mem n _ _ _ p hp))
where climbL_mem : ∀ (n : Nat) (lv : Int) (x : Ex) (l : List Flat) (p : Flat), p ∈ (climbL n lv x l).2 → p ∈ l
  | 0, lv, x, l, p, h => h
  | n + 1, lv, x, [], p, h => h
  | n + 1, lv, x, (op, a, y) :: l, p, h => by
    simp only [climbL] at h
    split at h
    · exact h
    · exact .tail _ (climbL_mem n _ _ _ p (climbL_mem n _ _ _ p h))

/-! ### on tokens -/
/-- climbing: the operand has come, operators of at least a level are gone along -/
def loopE (u : List Tok → PR Ex) : Nat → Int → Ex → List Tok → PR Ex
  | 0, lv, x, r => .error (0, 0)
  | n + 1, lv, x, r => match opT (here r) with
    | none => .ok (x, r)
    | some op => if lvlO (op : Int) < lv then .ok (x, r) else match u r.tail with
      | .error f => .error f
      | .ok (y, r1) => match loopE u n (lvlO (op : Int) + 1) y r1 with
        | .error f => .error f
        | .ok (z, r2) => loopE u n lv (binE op (here r).at_ x z) r2
/-- an operand's reader goes on -/
def Goes (u : List Tok → PR Ex) : Prop := ∀ r x r', u r = .ok (x, r') → r'.length < r.length
theorem findO_lvl {s : List UInt8} {op : Nat} (h : findO s = some op) : 1 ≤ lvlO (op : Int) := by
  unfold findO at h
  have h1 := List.find?_some h
  have h2 := List.mem_of_find?_eq_some h
  simp only [List.mem_range] at h2
  simp only [Bool.and_eq_true] at h1
  have key : ∀ k : Nat, k < 19 → twoOp (k : Int) = true → 1 ≤ lvlO (k : Int) := by decide
  exact key op h2 h1.1
theorem opT_lvl {t : Tok} {op : Nat} (h : opT t = some op) : 1 ≤ lvlO (op : Int) := by
  unfold opT at h; split at h
  · exact findO_lvl h
  · cases h
theorem opT_ne {r : List Tok} {op : Nat} (h : opT (here r) = some op) : r ≠ [] := by
  rintro rfl; simp [opT, here, tok0] at h
theorem flatE_fuel (u : List Tok → PR Ex) (hu : Goes u) : ∀ (n m : Nat) (r : List Tok), r.length < n → r.length < m → flatE u n r = flatE u m r
  | 0, m, r, h, _ => by omega
  | n + 1, 0, r, _, h => by omega
  | n + 1, m + 1, r, h1, h2 => by
    simp only [flatE]
    cases hop : opT (here r) with
    | none => rfl
    | some op =>
      simp only
      cases hx : u r.tail with
      | error f => rfl
      | ok p =>
        obtain ⟨x, r1⟩ := p
        simp only
        have := hu _ _ _ hx
        have := tail_lt (opT_ne hop)
        rw [flatE_fuel u hu n m r1 (by omega) (by omega)]
theorem flatE_ok (u : List Tok → PR Ex) : ∀ (n : Nat) (r : List Tok) (l : List Flat) (r' : List Tok), flatE u n r = .ok (l, r') → FlatOk l
  | 0, r, l, r', h => by simp [flatE] at h
  | n + 1, r, l, r', h => by
    simp only [flatE] at h
    cases hop : opT (here r) with
    | none => rw [hop] at h; cases h; intro p hp; simp at hp
    | some op =>
      rw [hop] at h
      simp only at h
      cases hx : u r.tail with
      | error f => rw [hx] at h; cases h
      | ok p =>
        obtain ⟨x, r1⟩ := p
        rw [hx] at h
        simp only at h
        cases hf : flatE u n r1 with
        | error f => rw [hf] at h; cases h
        | ok q =>
          obtain ⟨l1, r2⟩ := q
          rw [hf] at h
          cases h
          intro p hp
          rcases List.mem_cons.1 hp with rfl | hp
          · exact opT_lvl hop
          · exact flatE_ok u n r1 l1 _ hf p hp
/-- climbing on tokens goes as climbing on what is cut -/
theorem loopE_flat (u : List Tok → PR Ex) (hu : Goes u) : ∀ (n : Nat) (lv : Int) (x : Ex) (r : List Tok), r.length < n →
    (∀ l rE, flatE u n r = .ok (l, rE) → ∃ r', loopE u n lv x r = .ok ((climbL n lv x l).1, r') ∧ r'.length ≤ r.length ∧ flatE u n r' = .ok ((climbL n lv x l).2, rE) ∧ l.length ≤ r.length) ∧
    (∀ f, flatE u n r = .error f → loopE u n lv x r = .error f ∨ ∃ x' r', loopE u n lv x r = .ok (x', r') ∧ r'.length ≤ r.length ∧ flatE u n r' = .error f ∧ ∃ op, opT (here r') = some op ∧ lvlO (op : Int) < lv)
  | 0, lv, x, r, h => by omega
  | n + 1, lv, x, r, h => by
    cases hop : opT (here r) with
    | none =>
      have e1 : flatE u (n + 1) r = .ok ([], r) := by simp only [flatE, hop]
      have e2 : loopE u (n + 1) lv x r = .ok (x, r) := by simp only [loopE, hop]
      refine ⟨fun l rE hl => ?_, fun f hf => by rw [e1] at hf; cases hf⟩
      rw [e1] at hl; cases hl
      exact ⟨r, e2, Nat.le_refl _, e1, Nat.zero_le _⟩
    | some op =>
      have hne := tail_lt (opT_ne hop)
      cases hx : u r.tail with
      | error f0 =>
        have e1 : flatE u (n + 1) r = .error f0 := by simp only [flatE, hop, hx]
        refine ⟨fun l rE hl => by (rw [e1] at hl; cases hl), fun f hf => ?_⟩
        rw [e1] at hf; cases hf
        by_cases hlv : lvlO (op : Int) < lv
        · right
          exact ⟨x, r, by simp only [loopE, hop, hlv, if_true], Nat.le_refl _, e1, op, hop, hlv⟩
        · left
          simp only [loopE, hop, hlv, if_false, hx]
      | ok p =>
        obtain ⟨y, r1⟩ := p
        have hr1 := hu _ _ _ hx
        have e1 : flatE u (n + 1) r = match flatE u n r1 with | .error f => .error f | .ok (l, r') => .ok ((op, (here r).at_, y) :: l, r') := by first | (simp only [flatE, hop, hx]; done) | (simp only [flatE, hop, hx]; rfl)
        by_cases hlv : lvlO (op : Int) < lv
        · have e2 : loopE u (n + 1) lv x r = .ok (x, r) := by simp only [loopE, hop, hlv, if_true]
          refine ⟨fun l rE hl => ?_, fun f hf => .inr ⟨x, r, e2, Nat.le_refl _, hf, op, hop, hlv⟩⟩
          have hl' := hl
          rw [e1] at hl'
          cases hf : flatE u n r1 with
          | error f => rw [hf] at hl'; cases hl'
          | ok q =>
            obtain ⟨l1, r2⟩ := q
            rw [hf] at hl'
            simp only [Except.ok.injEq, Prod.mk.injEq] at hl'
            obtain ⟨rfl, rfl⟩ := hl'
            have hlen := ((loopE_flat u hu n 0 x r1 (by omega)).1 l1 _ hf).choose_spec.2.2.2
            refine ⟨r, ?_, Nat.le_refl _, ?_, by simp only [List.length_cons]; omega⟩
            · simp only [climbL, hlv, if_true]; exact e2
            · simp only [climbL, hlv, if_true]; exact hl
        · have e2 : loopE u (n + 1) lv x r = match loopE u n (lvlO (op : Int) + 1) y r1 with | .error f => .error f | .ok (z, r2) => loopE u n lv (binE op (here r).at_ x z) r2 := by simp only [loopE, hop, hlv, if_false, hx]
          obtain ⟨ihA, ihB⟩ := loopE_flat u hu n (lvlO (op : Int) + 1) y r1 (by omega)
          refine ⟨fun l rE hl => ?_, fun f hf => ?_⟩
          · have hl' := hl
            rw [e1] at hl'
            cases hf : flatE u n r1 with
            | error f => rw [hf] at hl'; cases hl'
            | ok q =>
              obtain ⟨l1, r2⟩ := q
              rw [hf] at hl'
              simp only [Except.ok.injEq, Prod.mk.injEq] at hl'
              obtain ⟨rfl, rfl⟩ := hl'
              obtain ⟨r3, h1, h2, h3, h4⟩ := ihA l1 _ hf
              obtain ⟨r4, k1, k2, k3, k4⟩ := (loopE_flat u hu n lv (binE op (here r).at_ x (climbL n (lvlO (op : Int) + 1) y l1).1) r3 (by omega)).1 _ _ h3
              refine ⟨r4, ?_, by omega, ?_, by simp only [List.length_cons]; omega⟩
              · rw [e2, h1]
                simp only [climbL, hlv, if_false]
                exact k1
              · simp only [climbL, hlv, if_false]
                rw [flatE_fuel u hu (n + 1) n r4 (by omega) (by omega)]
                exact k3
          · rw [e1] at hf
            have hf' : flatE u n r1 = .error f := by
              cases hq : flatE u n r1 with
              | error g => rw [hq] at hf; cases hf; rfl
              | ok q => rw [hq] at hf; cases hf
            rcases ihB f hf' with h1 | ⟨x', r', h1, h2, h3, op', h4, h5⟩
            · left; rw [e2, h1]
            · rcases (loopE_flat u hu n lv (binE op (here r).at_ x x') r' (by omega)).2 f h3 with k1 | ⟨x2, r2, k1, k2, k3, k4⟩
              · left; rw [e2, h1]; exact k1
              · right
                refine ⟨x2, r2, by rw [e2, h1]; exact k1, by omega, ?_, k4⟩
                rw [flatE_fuel u hu (n + 1) n r2 (by omega) (by omega)]
                exact k3
/-- an expression, by climbing -/
def climbE (u : List Tok → PR Ex) (lv : Int) (r : List Tok) : PR Ex := match u r with
  | .error f => .error f
  | .ok (x, r1) => loopE u (r1.length + 1) lv x r1
theorem climbE_expr (u : List Tok → PR Ex) (hu : Goes u) (r : List Tok) : climbE u 1 r = exprW u r := by
  unfold climbE exprW
  cases hx : u r with
  | error f => rfl
  | ok p =>
    obtain ⟨x, r1⟩ := p
    simp only
    obtain ⟨hA, hB⟩ := loopE_flat u hu (r1.length + 1) 1 x r1 (by omega)
    cases hf : flatE u (r1.length + 1) r1 with
    | error f =>
      simp only
      rcases hB f hf with h | ⟨x', r', h1, h2, h3, op, h4, h5⟩
      · exact h
      · have := opT_lvl h4; omega
    | ok q =>
      obtain ⟨l, rE⟩ := q
      simp only
      obtain ⟨r', h1, h2, h3, h4⟩ := hA l rE hf
      have hok := flatE_ok u _ _ _ _ hf
      rw [climbL_all _ _ _ (by omega) hok] at h3
      have e : r' = rE := by
        simp only [flatE] at h3
        cases hop : opT (here r') with
        | none => rw [hop] at h3; simp at h3; exact h3
        | some op =>
          rw [hop] at h3
          simp only at h3
          cases hy : u r'.tail with
          | error f => rw [hy] at h3; cases h3
          | ok q2 =>
            obtain ⟨y, r2⟩ := q2
            rw [hy] at h3
            simp only at h3
            cases hq : flatE u r1.length r2 with
            | error f => rw [hq] at h3; cases h3
            | ok q3 => rw [hq] at h3; simp at h3
      rw [h1, e, shunt_climb l x hok, climbL_fuel _ (l.length + 1) 1 x l (by omega) (by omega)]
theorem loopE_fuel (u : List Tok → PR Ex) (hu : Goes u) (hL : ∀ n lv x r z r', loopE u n lv x r = .ok (z, r') → r'.length ≤ r.length) : ∀ (n m : Nat) (lv : Int) (x : Ex) (r : List Tok), r.length < n → r.length < m → loopE u n lv x r = loopE u m lv x r
  | 0, m, lv, x, r, h, _ => by omega
  | n + 1, 0, lv, x, r, _, h => by omega
  | n + 1, m + 1, lv, x, r, h1, h2 => by
    simp only [loopE]
    cases hop : opT (here r) with
    | none => rfl
    | some op =>
      simp only
      have := tail_lt (opT_ne hop)
      split
      · rfl
      · cases hx : u r.tail with
        | error f => rfl
        | ok p =>
          obtain ⟨y, r1⟩ := p
          simp only
          have := hu _ _ _ hx
          rw [loopE_fuel u hu hL n m (lvlO (op : Int) + 1) y r1 (by omega) (by omega)]
          cases hz : loopE u m (lvlO (op : Int) + 1) y r1 with
          | error f => rfl
          | ok q =>
            obtain ⟨z, r2⟩ := q
            simp only
            have := hL _ _ _ _ _ _ hz
            exact loopE_fuel u hu hL n m _ _ _ (by omega) (by omega)
theorem loopE_len (u : List Tok → PR Ex) (hu : Goes u) : ∀ (n : Nat) (lv : Int) (x : Ex) (r : List Tok) (z : Ex) (r' : List Tok), loopE u n lv x r = .ok (z, r') → r'.length ≤ r.length
  | 0, lv, x, r, z, r', h => by simp [loopE] at h
  | n + 1, lv, x, r, z, r', h => by
    simp only [loopE] at h
    cases hop : opT (here r) with
    | none => rw [hop] at h; cases h; exact Nat.le_refl _
    | some op =>
      rw [hop] at h
      simp only at h
      have := tail_lt (opT_ne hop)
      split at h
      · cases h; exact Nat.le_refl _
      · cases hx : u r.tail with
        | error f => rw [hx] at h; cases h
        | ok p =>
          obtain ⟨y, r1⟩ := p
          rw [hx] at h
          simp only at h
          have := hu _ _ _ hx
          cases hz : loopE u n (lvlO (op : Int) + 1) y r1 with
          | error f => rw [hz] at h; cases h
          | ok q =>
            obtain ⟨z1, r2⟩ := q
            rw [hz] at h
            simp only at h
            have := loopE_len u hu _ _ _ _ _ _ hz
            have := loopE_len u hu _ _ _ _ _ _ h
            omega
end ParS


/- Trees with each name and place turned: no program in sight. -/
namespace LexS
open Sx
set_option linter.unusedVariables false
set_option linter.unusedSimpArgs false
section
variable (g : List UInt8 → List UInt8) (h : Int → Int)
end
variable {g : List UInt8 → List UInt8} {h : Int → Int}
end LexS


/- The names of a tree: no program in sight. -/
namespace LexS
open Sx
set_option linter.unusedVariables false
set_option linter.unusedSimpArgs false
end LexS


/- When trees are the same: no program in sight. -/
namespace LexS
open Sx
set_option linter.unusedVariables false
set_option linter.unusedSimpArgs false
def zipA {α β : Type} (f : α → β → Bool) : List α → List β → Bool
  | [], [] => true
  | x :: r, y :: s => f x y && zipA f r s
  | _, _ => false
theorem zipA_len {α β : Type} {f : α → β → Bool} : ∀ {a : List α} {b : List β}, a.length ≠ b.length → zipA f a b = false
  | [], [], h => absurd rfl h
  | x :: r, y :: s, h => by simp only [zipA, zipA_len (f := f) (a := r) (b := s) (by simpa using h), Bool.and_false]
  | [], _ :: _, _ => rfl
  | _ :: _, [], _ => rfl
theorem zipA_no {α β : Type} {f : α → β → Bool} : ∀ {a : List α} {b : List β} {j : Nat} {x : α} {y : β}, a[j]? = some x → b[j]? = some y → f x y = false → zipA f a b = false
  | [], _, j, x, y, h, _, _ => by simp at h
  | _ :: _, [], j, x, y, _, h, _ => by simp at h
  | u :: r, v :: s, 0, x, y, h1, h2, h => by simp at h1 h2; subst h1 h2; simp [zipA, h]
  | u :: r, v :: s, j + 1, x, y, h1, h2, h => by simp only [zipA, zipA_no (f := f) (a := r) (b := s) (by simpa using h1) (by simpa using h2) h, Bool.and_false]
theorem zipA_yes {α β : Type} {f : α → β → Bool} : ∀ {a : List α} {b : List β}, a.length = b.length → (∀ (j : Nat) x y, j < a.length → a[j]? = some x → b[j]? = some y → f x y = true) → zipA f a b = true
  | [], [], _, _ => rfl
  | u :: r, v :: s, hl, h => by
    simp only [zipA, Bool.and_eq_true]
    exact ⟨h 0 u v (by simp) rfl rfl, zipA_yes (by simpa using hl) fun j x y hj h1 h2 => h (j + 1) x y (by simp; omega) (by simpa using h1) (by simpa using h2)⟩
  | [], _ :: _, hl, _ => by simp at hl
  | _ :: _, [], hl, _ => by simp at hl
theorem zipA_refl {α : Type} {f : α → α → Bool} {a : List α} (h : ∀ x ∈ a, f x x = true) : zipA f a a = true :=
  zipA_yes rfl fun j x y hj h1 h2 => by rw [h1] at h2; cases h2; exact h x (List.mem_of_getElem? h1)
mutual
def sameE : Ex → Ex → Bool
  | .mk k op wd nm kids a, y => decide (k = y.k ∧ op = y.op ∧ wd = y.wd ∧ nm = y.nm) && sameEs kids y.kids
termination_by structural e => e
def sameEs : List Ex → List Ex → Bool
  | [], l => l.isEmpty
  | x :: r, l => match l with | [] => false | y :: s => sameE x y && sameEs r s
termination_by structural l => l
end
mutual
def plE : Ex → Ex → Bool
  | .mk k op wd nm kids a, y => decide (a = y.a) && plEs kids y.kids
termination_by structural e => e
def plEs : List Ex → List Ex → Bool
  | [], l => l.isEmpty
  | x :: r, l => match l with | [] => false | y :: s => plE x y && plEs r s
termination_by structural l => l
end
theorem sameEs_eq : ∀ (a b : List Ex), sameEs a b = zipA sameE a b
  | [], [] => rfl
  | [], _ :: _ => rfl
  | _ :: _, [] => by simp [sameEs, zipA]
  | x :: r, y :: s => by simp only [sameEs, zipA, sameEs_eq r s]
theorem plEs_eq : ∀ (a b : List Ex), plEs a b = zipA plE a b
  | [], [] => rfl
  | [], _ :: _ => rfl
  | _ :: _, [] => by simp [plEs, zipA]
  | x :: r, y :: s => by simp only [plEs, zipA, plEs_eq r s]
theorem sameE_eq (e y : Ex) : sameE e y = (decide (e.k = y.k ∧ e.op = y.op ∧ e.wd = y.wd ∧ e.nm = y.nm) && zipA sameE e.kids y.kids) := by
  cases e; rw [sameE, sameEs_eq]; rfl
theorem plE_eq (e y : Ex) : plE e y = (decide (e.a = y.a) && zipA plE e.kids y.kids) := by
  cases e; rw [plE, plEs_eq]; rfl
mutual
def sameS : Sm → Sm → Bool
  | .mk k nm other e body els a, y => decide (k = y.k ∧ nm = y.nm ∧ other = y.other) && zipA sameE e y.e && sameSs body y.body && sameSs els y.els
termination_by structural e => e
def sameSs : List Sm → List Sm → Bool
  | [], l => l.isEmpty
  | x :: r, l => match l with | [] => false | y :: s => sameS x y && sameSs r s
termination_by structural l => l
end
mutual
def plS : Sm → Sm → Bool
  | .mk k nm other e body els a, y => decide (a = y.a) && zipA plE e y.e && plSs body y.body && plSs els y.els
termination_by structural e => e
def plSs : List Sm → List Sm → Bool
  | [], l => l.isEmpty
  | x :: r, l => match l with | [] => false | y :: s => plS x y && plSs r s
termination_by structural l => l
end
theorem sameSs_eq : ∀ (a b : List Sm), sameSs a b = zipA sameS a b
  | [], [] => rfl
  | [], _ :: _ => rfl
  | _ :: _, [] => by simp [sameSs, zipA]
  | x :: r, y :: s => by simp only [sameSs, zipA, sameSs_eq r s]
theorem plSs_eq : ∀ (a b : List Sm), plSs a b = zipA plS a b
  | [], [] => rfl
  | [], _ :: _ => rfl
  | _ :: _, [] => by simp [plSs, zipA]
  | x :: r, y :: s => by simp only [plSs, zipA, plSs_eq r s]
theorem sameS_eq (s y : Sm) : sameS s y = (decide (s.k = y.k ∧ s.nm = y.nm ∧ s.other = y.other) && zipA sameE s.e y.e && zipA sameS s.body y.body && zipA sameS s.els y.els) := by
  cases s; rw [sameS, sameSs_eq, sameSs_eq]; rfl
theorem plS_eq (s y : Sm) : plS s y = (decide (s.a = y.a) && zipA plE s.e y.e && zipA plS s.body y.body && zipA plS s.els y.els) := by
  cases s; rw [plS, plSs_eq, plSs_eq]; rfl
def sameD (d y : Dc) : Bool := decide (d.nm = y.nm ∧ d.wd = y.wd)
def eqD (d y : Dc) : Bool := decide (d.nm = y.nm ∧ d.wd = y.wd ∧ d.a = y.a)
def sameT (t y : Th) : Bool := decide (t.nm = y.nm) && zipA sameD t.locals y.locals && zipA sameS t.body y.body
def exT (t y : Th) : Bool := decide (t.a = y.a) && zipA eqD t.locals y.locals && zipA plS t.body y.body
def sameP (p q : Pg) : Bool := zipA sameD p.shared q.shared && zipA sameD p.locks q.locks && zipA sameT p.threads q.threads
def exactP (p q : Pg) : Bool := sameP p q && zipA eqD p.shared q.shared && zipA eqD p.locks q.locks && zipA exT p.threads q.threads
theorem memE_lt {e x : Ex} (h : x ∈ e.kids) : SizeOf.sizeOf x < SizeOf.sizeOf e := by
  cases e with
  | mk k op wd nm kids a =>
    have := List.sizeOf_lt_of_mem h
    simp only [Ex.kids] at this
    simp only [Ex.mk.sizeOf_spec]; omega
theorem memS_lt {s x : Sm} (h : x ∈ s.body ∨ x ∈ s.els) : SizeOf.sizeOf x < SizeOf.sizeOf s := by
  cases s with
  | mk k nm other e body els a =>
    simp only [Sm.body, Sm.els] at h
    simp only [Sm.mk.sizeOf_spec]
    rcases h with h | h <;> (have := List.sizeOf_lt_of_mem h; omega)
theorem sameE_refl : ∀ (n : Nat) (e : Ex), SizeOf.sizeOf e = n → sameE e e = true := by
  intro n
  refine Nat.strongRecOn n fun n ih e hn => ?_
  subst hn
  rw [sameE_eq]
  simp only [and_self, decide_true, Bool.true_and]
  exact zipA_refl fun x hx => ih _ (memE_lt hx) x rfl
theorem plE_refl : ∀ (n : Nat) (e : Ex), SizeOf.sizeOf e = n → plE e e = true := by
  intro n
  refine Nat.strongRecOn n fun n ih e hn => ?_
  subst hn
  rw [plE_eq]
  simp only [decide_true, Bool.true_and]
  exact zipA_refl fun x hx => ih _ (memE_lt hx) x rfl
theorem sameS_refl : ∀ (n : Nat) (s : Sm), SizeOf.sizeOf s = n → sameS s s = true := by
  intro n
  refine Nat.strongRecOn n fun n ih s hn => ?_
  subst hn
  rw [sameS_eq]
  simp only [and_self, decide_true, Bool.true_and, Bool.and_eq_true]
  exact ⟨⟨zipA_refl fun x hx => sameE_refl _ x rfl, zipA_refl fun x hx => ih _ (memS_lt (.inl hx)) x rfl⟩, zipA_refl fun x hx => ih _ (memS_lt (.inr hx)) x rfl⟩
theorem plS_refl : ∀ (n : Nat) (s : Sm), SizeOf.sizeOf s = n → plS s s = true := by
  intro n
  refine Nat.strongRecOn n fun n ih s hn => ?_
  subst hn
  rw [plS_eq]
  simp only [decide_true, Bool.true_and, Bool.and_eq_true]
  exact ⟨⟨zipA_refl fun x hx => plE_refl _ x rfl, zipA_refl fun x hx => ih _ (memS_lt (.inl hx)) x rfl⟩, zipA_refl fun x hx => ih _ (memS_lt (.inr hx)) x rfl⟩
theorem sameP_refl (p : Pg) : sameP p p = true := by
  unfold sameP
  simp only [Bool.and_eq_true]
  refine ⟨⟨zipA_refl fun x _ => by simp [sameD], zipA_refl fun x _ => by simp [sameD]⟩, zipA_refl fun t _ => ?_⟩
  unfold sameT
  simp only [decide_true, Bool.true_and, Bool.and_eq_true]
  exact ⟨zipA_refl fun x _ => by simp [sameD], zipA_refl fun x _ => sameS_refl _ x rfl⟩
theorem exactP_refl (p : Pg) : exactP p p = true := by
  unfold exactP
  simp only [sameP_refl, Bool.true_and, Bool.and_eq_true]
  refine ⟨⟨zipA_refl fun x _ => by simp [eqD], zipA_refl fun x _ => by simp [eqD]⟩, zipA_refl fun t _ => ?_⟩
  unfold exT
  simp only [decide_true, Bool.true_and, Bool.and_eq_true]
  exact ⟨zipA_refl fun x _ => by simp [eqD], zipA_refl fun x _ => plS_refl _ x rfl⟩
end LexS


/- The engine, twentieth part: trees whose numbers are of their kinds; how great they are; arguments that are trees, opened. -/
namespace Sx
open Go Go.RowKit
set_option linter.unusedVariables false
set_option linter.unusedSimpArgs false
/-! ## numbers are of their kinds -/
def i64 (x : Int) : Prop := -9223372036854775808 ≤ x ∧ x ≤ 9223372036854775807
def u8 (x : Int) : Prop := 0 ≤ x ∧ x ≤ 255
inductive OkE : Ex → Prop
  | mk {k op wd : Int} {nm : List UInt8} {kids : List Ex} {a : Int} (h1 : u8 k) (h2 : u8 op) (h3 : i64 wd) (h4 : i64 a) (hn : kids.length ≤ 1099511627776) (hk : ∀ (j : Nat) x, kids[j]? = some x → OkE x) : OkE (.mk k op wd nm kids a)
theorem OkE.kid {e x : Ex} {j : Nat} (h : OkE e) (hj : e.kids[j]? = some x) : OkE x := by cases h with | mk h1 h2 h3 h4 hn hk => exact hk j x hj
def OkEs (es : List Ex) : Prop := es.length ≤ 1099511627776 ∧ ∀ (j : Nat) x, es[j]? = some x → OkE x
theorem OkE.kids {e : Ex} (h : OkE e) : OkEs e.kids := ⟨by cases h; assumption, fun j x hx => h.kid hx⟩
inductive OkS : Sm → Prop
  | mk {k : Int} {nm other : List UInt8} {e : List Ex} {body els : List Sm} {a : Int} (h1 : u8 k) (h2 : i64 a) (he : OkEs e) (hnb : body.length ≤ 1099511627776) (hb : ∀ (j : Nat) x, body[j]? = some x → OkS x) (hnl : els.length ≤ 1099511627776) (hl : ∀ (j : Nat) x, els[j]? = some x → OkS x) : OkS (.mk k nm other e body els a)
def OkSs (ss : List Sm) : Prop := ss.length ≤ 1099511627776 ∧ ∀ (j : Nat) x, ss[j]? = some x → OkS x
theorem OkS.e {s : Sm} (h : OkS s) : OkEs s.e := by cases h; assumption
theorem OkS.body {s : Sm} (h : OkS s) : OkSs s.body := by cases h with | mk h1 h2 he hnb hb hnl hl => exact ⟨hnb, hb⟩
theorem OkS.els {s : Sm} (h : OkS s) : OkSs s.els := by cases h with | mk h1 h2 he hnb hb hnl hl => exact ⟨hnl, hl⟩
def OkD (ds : List Dc) : Prop := ds.length ≤ 1099511627776 ∧ ∀ (j : Nat) x, ds[j]? = some x → i64 x.wd ∧ i64 x.a
def OkT (ts : List Th) : Prop := ts.length ≤ 1099511627776 ∧ ∀ (j : Nat) t, ts[j]? = some t → OkD t.locals ∧ OkSs t.body ∧ i64 t.a
def OkP (p : Pg) : Prop := OkD p.shared ∧ OkD p.locks ∧ OkT p.threads

structure TyIds where
  k1 : TypeId
  op : TypeId
  wd : TypeId
  str : TypeId
  es : TypeId
  e : TypeId
  int : TypeId
  k2 : TypeId
  ss : TypeId
  s : TypeId
  ds : TypeId
  d : TypeId
  ts : TypeId
  t : TypeId
  pg : TypeId
section
variable {H : Type} {enc : TypeId × Value → H} {P : Program} {w : World}
variable {I : TyIds}
end
end Sx


/- When a tree may be written, and its text: no program in sight. -/
namespace LexS
open Sx
set_option linter.unusedVariables false
set_option linter.unusedSimpArgs false
/-! ## when a tree may be written, and its text -/
/-- does a kid of a binary expression stand in parentheses? -/
def inn (op : Int) (x : Ex) (second : Bool) : Bool := decide (x.k = 4) && (decide (lvlO x.op < lvlO op) || second && decide (lvlO x.op = lvlO op))
def rightE : Ex → Nat → Bool
  | .mk k op wd nm kids a, d => decide (d ≤ 64) && (
    if k = 1 then decide (0 ≤ wd ∧ op = 0 ∧ nm = [] ∧ kids.length = 0)
    else if k = 2 then isName nm && decide (op = 0 ∧ wd = 0 ∧ kids.length = 0)
    else if k = 3 then oneOp op && decide (wd = 0 ∧ nm = []) && (match kids with | [x] => rightE x (if x.k = 4 then d + 2 else d + 1) | _ => false)
    else if k = 4 then twoOp op && decide (wd = 0 ∧ nm = []) && (match kids with | [x, y] => rightE x (if inn op x false = true then d + 1 else d) && rightE y (if inn op y true = true then d + 1 else d) | _ => false)
    else false)
def par (b : Bool) (l : List UInt8) : List UInt8 := if b = true then [40] ++ l ++ [41] else l
def hasN (k : Int) : Bool := decide (k = 1 ∨ k = 2 ∨ k = 5)
def hasE (k : Int) : Bool := decide (k = 1 ∨ k = 2 ∨ k = 3 ∨ k = 4 ∨ k = 6)
def hasB (k : Int) : Bool := decide (k = 3 ∨ k = 4 ∨ k = 5)
def nmOk (b : Bool) (l : List UInt8) : Bool := if b = true then isName l else decide (l = [])
def rightX (b : Bool) (e : List Ex) : Bool := if b = true then (match e with | [x] => rightE x 0 | _ => false) else decide (e.length = 0)
mutual
def rightS : Sm → Nat → Bool
  | .mk k nm other e body els a, d => decide (1 ≤ k ∧ k ≤ 7) && nmOk (hasN k) nm && nmOk (decide (k = 2)) other && rightX (hasE k) e && (hasB k || decide (body.length = 0)) && (decide (k = 3) || decide (els.length = 0)) &&
    (!(hasB k || decide (0 < els.length)) || decide (d < 64)) && rightSs body (d + 1) && rightSs els (d + 1)
termination_by structural s => s
def rightSs : List Sm → Nat → Bool
  | [], _ => true
  | s :: r, d => rightS s d && rightSs r d
termination_by structural l => l
end
def dcOk (shared : Bool) (x : Dc) : Bool := isName x.nm && (if shared = true then decide (x.wd ≠ -9223372036854775808) else decide (x.wd = 0))
def thOk (t : Th) : Bool := isName t.nm && t.locals.all (dcOk false) && rightSs t.body 1
def pgOk (p : Pg) : Bool := p.shared.all (dcOk true) && p.locks.all (dcOk false) && p.threads.all thOk
end LexS


/- How long a tree's text is: no program in sight. -/
namespace LexS
open Sx
set_option linter.unusedVariables false
set_option linter.unusedSimpArgs false
end LexS


/- Places change no text: no program in sight. -/
namespace LexS
open Sx
set_option linter.unusedVariables false
set_option linter.unusedSimpArgs false
section
variable {h : Int → Int}
end
/-! ### twice -/
section
variable {g : List UInt8 → List UInt8} {h g' : List UInt8 → List UInt8} {k k' : Int → Int}
end
/-! ### the numbers stay of their kinds -/
section
variable {g : List UInt8 → List UInt8} {k : Int → Int} (hk : ∀ a, i64 a → i64 (k a))
include hk
end
end LexS


/- A tree renamed: no program in sight. -/
namespace LexS
open Sx
set_option linter.unusedVariables false
set_option linter.unusedSimpArgs false
theorem rightE_iff {e : Ex} {d : Nat} : rightE e d = true ↔ d ≤ 64 ∧ ((e.k = 1 ∧ 0 ≤ e.wd ∧ e.op = 0 ∧ e.nm = [] ∧ e.kids = []) ∨ (e.k = 2 ∧ isName e.nm = true ∧ e.op = 0 ∧ e.wd = 0 ∧ e.kids = []) ∨
    (e.k = 3 ∧ oneOp e.op = true ∧ e.wd = 0 ∧ e.nm = [] ∧ ∃ x, e.kids = [x] ∧ rightE x (if x.k = 4 then d + 2 else d + 1) = true) ∨
    (e.k = 4 ∧ twoOp e.op = true ∧ e.wd = 0 ∧ e.nm = [] ∧ ∃ x y, e.kids = [x, y] ∧ rightE x (if inn e.op x false = true then d + 1 else d) = true ∧ rightE y (if inn e.op y true = true then d + 1 else d) = true)) := by
  cases e with
  | mk k op wd nm kids a =>
    simp only [Ex.k, Ex.op, Ex.wd, Ex.nm, Ex.kids]
    rcases kids with _ | ⟨x, _ | ⟨y, _ | ⟨z, r⟩⟩⟩ <;>
    · simp only [rightE, Bool.and_eq_true, decide_eq_true_eq]
      refine and_congr_right fun _ => ?_
      by_cases h1 : k = 1
      · subst h1; simp
      by_cases h2 : k = 2
      · subst h2; simp
      by_cases h3 : k = 3
      · subst h3; simp [and_assoc] <;> (try (intros; constructor <;> intro h <;> first | exact h | exact ⟨_, rfl, h⟩ | exact ⟨_, _, rfl, rfl, h⟩ | exact ⟨_, rfl, _, rfl, h⟩ | (obtain ⟨_, rfl, h⟩ := h; exact h) | (obtain ⟨_, _, rfl, rfl, h⟩ := h; exact h) | (obtain ⟨_, rfl, _, rfl, h⟩ := h; exact h)))
      by_cases h4 : k = 4
      · subst h4; simp [and_assoc] <;> (try (intros; constructor <;> intro h <;> first | exact h | exact ⟨_, rfl, h⟩ | exact ⟨_, _, rfl, rfl, h⟩ | exact ⟨_, rfl, _, rfl, h⟩ | (obtain ⟨_, rfl, h⟩ := h; exact h) | (obtain ⟨_, _, rfl, rfl, h⟩ := h; exact h) | (obtain ⟨_, rfl, _, rfl, h⟩ := h; exact h)))
      simp [h1, h2, h3, h4]
section
variable {g : Wd → Wd} {h : Int → Int}
end
end LexS


/- The tokens of a tree, and that they are parsed as the tree: expressions. -/
namespace ParS
open Sx LexS
set_option linter.unusedVariables false
set_option linter.unusedSimpArgs false

section
variable (k op wd : Int) (nm : List UInt8) (kids : List Ex) (a : Int)
end
/-! ### how far readers go -/
theorem flatE_len (u : List Tok → PR Ex) (hu : Goes u) : ∀ (n : Nat) (r : List Tok) (l : List Flat) (r' : List Tok), flatE u n r = .ok (l, r') → r'.length ≤ r.length
  | 0, r, l, r', h => by simp [flatE] at h
  | n + 1, r, l, r', h => by
    simp only [flatE] at h
    cases hop : opT (here r) with
    | none => rw [hop] at h; cases h; exact Nat.le_refl _
    | some op =>
      rw [hop] at h
      simp only at h
      cases hx : u r.tail with
      | error f => rw [hx] at h; cases h
      | ok p =>
        obtain ⟨x, r1⟩ := p
        rw [hx] at h
        simp only at h
        cases hf : flatE u n r1 with
        | error f => rw [hf] at h; cases h
        | ok q =>
          obtain ⟨l1, r2⟩ := q
          rw [hf] at h
          cases h
          have := flatE_len u hu n r1 l1 _ hf
          have := hu _ _ _ hx
          have := tail_lt (opT_ne hop)
          omega
theorem exprW_goes {u : List Tok → PR Ex} (hu : Goes u) : Goes (exprW u) := by
  intro r x r' h
  unfold exprW at h
  cases hx : u r with
  | error f => rw [hx] at h; cases h
  | ok p =>
    obtain ⟨y, r1⟩ := p
    rw [hx] at h
    simp only at h
    cases hf : flatE u (r1.length + 1) r1 with
    | error f => rw [hf] at h; cases h
    | ok q =>
      obtain ⟨l1, r2⟩ := q
      rw [hf] at h
      cases h
      have := flatE_len u hu _ _ _ _ hf
      have := hu _ _ _ hx
      omega
theorem leaf_goes (e : Nat) : Goes (leafP e) := by
  intro r x r' h
  unfold leafP at h
  split at h
  · rename_i hk; cases h; exact tail_lt (kind_ne hk (by decide))
  · split at h
    · rename_i hk; cases h; exact tail_lt (kind_ne hk (by decide))
    · cases h
theorem unary_goes (e : Nat) : ∀ m, Goes (unaryP e m)
  | 0 => by
    intro r x r' h
    simp only [unaryP] at h
    split at h
    · cases h
    · exact leaf_goes e r x r' h
  | m + 1 => by
    intro r x r' h
    simp only [unaryP] at h
    split at h
    · rename_i hi
      have h0 := tail_lt (inner_ne hi)
      split at h
      · cases hx : exprW (unaryP e m) r.tail with
        | error f => rw [hx] at h; cases h
        | ok p =>
          obtain ⟨y, r1⟩ := p
          rw [hx] at h
          simp only at h
          have h1 := exprW_goes (unary_goes e m) _ _ _ hx
          cases hw : want e [41] r1 with
          | error f => rw [hw] at h; cases h
          | ok r2 =>
            rw [hw] at h
            cases h
            obtain ⟨h2, rfl⟩ := want_ok hw
            have := tail_lt (isT_ne h2)
            omega
      · cases hx : unaryP e m r.tail with
        | error f => rw [hx] at h; cases h
        | ok p =>
          obtain ⟨y, r1⟩ := p
          rw [hx] at h
          cases h
          have h1 := unary_goes e m _ _ _ hx
          omega
    · exact leaf_goes e r x r' h
theorem expr_goes (e m : Nat) : Goes (exprP e m) := exprW_goes (unary_goes e m)

section
variable {e : Nat}
end
end ParS

