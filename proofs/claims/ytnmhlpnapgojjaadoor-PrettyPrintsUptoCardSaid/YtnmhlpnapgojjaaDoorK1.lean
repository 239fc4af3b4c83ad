/- A part of the proof: contracts of functions and plain laws; each theorem says its own conditions. -/
import Derived.Test.YtnmhlpnapgojjaaDoorRows
import Derived.Laws.OwnMore
import Derived.Laws.StructEq
import Derived.Test.YtnmhlpnapgojjaaDoorK0
namespace Go.Proofs.YtnmhlpnapgojjaaDoor
open Go.RowKit Sx LexS _root_.Go.Proofs.Tryd
set_option linter.unusedVariables false
set_option linter.unusedSimpArgs false
theorem Tryd.mixed : Tryd.prog.follows .mixedOrders = true := by kernel_rfl

theorem digit_any (c : UInt8) (w : World) : Ret Tryd.prog 70 [.int .u8 (c.toNat : Int)] w fun v w' => v = .bool (isDigit c) ∧ w' = w := by
 refine ret_of [_] func70 rfl ntmps70 rfl ?_
 have st := St.init w []
 refine vc_seq (vc_region ?_)
 refine vc_y rfl rfl (y_as rfl) ?_
 refine vc_end (vq_then (vc_keep [(0, _)] ⟨rfl, trivial⟩ (vc_seq (vc_region ?_))))
 refine vc_y rfl rfl (y_mv rfl) ?_
 refine vc_y rfl rfl (y_geq rfl rfl) ?_
 refine vc_e (e_mvb rfl rfl rfl ?_ ?_)
 ·
  intro hg5
  try simp only [dn] at hg5
  refine vc_y rfl rfl (y_mv rfl) ?_
  refine vc_y rfl rfl (y_leq rfl rfl) ?_
  refine vc_y rfl rfl (y_pickt rfl rfl) ?_
  refine vc_y rfl rfl (y_as rfl) ?_
  refine vc_end (vq_then (vc_keep [(2, _)] ⟨rfl, trivial⟩ (vc_ret ?_)))
  refine vq_ret1 st (.inl rfl) results70 (.tmp rfl) ?_
  refine ⟨_, rfl, ?_⟩
  exact ⟨by rw [Value.bool.injEq, Bool.eq_iff_iff]; simp only [isDigit, decide_eq_true_eq, true_iff, Bool.false_eq_true, false_iff]; omega, rfl⟩
 ·
  intro hg5
  try simp only [dn] at hg5
  iterate 2 refine vc_e (e_skip rfl rfl ?_)
  refine vc_y rfl rfl (y_pickf rfl rfl) ?_
  refine vc_y rfl rfl (y_as rfl) ?_
  refine vc_end (vq_then (vc_keep [(2, _)] ⟨rfl, trivial⟩ (vc_ret ?_)))
  refine vq_ret1 st (.inl rfl) results70 (.tmp rfl) ?_
  refine ⟨_, rfl, ?_⟩
  exact ⟨by rw [Value.bool.injEq, Bool.eq_iff_iff]; simp only [isDigit, decide_eq_true_eq, true_iff, Bool.false_eq_true, false_iff]; omega, rfl⟩

theorem letter_any (c : UInt8) (w : World) : Ret Tryd.prog 72 [.int .u8 (c.toNat : Int)] w fun v w' => v = .bool (isLetter c) ∧ w' = w := by
 refine ret_of [_] func72 rfl ntmps72 rfl ?_
 have st := St.init w []
 refine vc_seq (vc_region ?_)
 refine vc_y rfl rfl (y_as rfl) ?_
 refine vc_end (vq_then (vc_keep [(0, _)] ⟨rfl, trivial⟩ (vc_seq (vc_region ?_))))
 refine vc_y rfl rfl (y_mv rfl) ?_
 refine vc_y rfl rfl (y_geq rfl rfl) ?_
 refine vc_e (e_mvb rfl rfl rfl ?_ ?_)
 ·
  intro hg5
  try simp only [dn] at hg5
  refine vc_y rfl rfl (y_mv rfl) ?_
  refine vc_y rfl rfl (y_leq rfl rfl) ?_
  refine vc_y rfl rfl (y_pickt rfl rfl) ?_
  refine vc_e (e_mvb rfl rfl rfl ?_ ?_)
  ·
   intro hg9
   try simp only [dn] at hg9
   iterate 6 refine vc_e (e_skip rfl rfl ?_)
   refine vc_y rfl rfl (y_pickt rfl rfl) ?_
   refine vc_y rfl rfl (y_mv rfl) ?_
   iterate 2 refine vc_e (e_skip rfl rfl ?_)
   refine vc_y rfl rfl (y_pickt rfl rfl) ?_
   refine vc_y rfl rfl (y_as rfl) ?_
   refine vc_end (vq_then (vc_keep [(2, _)] ⟨rfl, trivial⟩ (vc_ret ?_)))
   refine vq_ret1 st (.inl rfl) results72 (.tmp rfl) ?_
   refine ⟨_, rfl, ?_⟩
   exact ⟨by rw [Value.bool.injEq, Bool.eq_iff_iff]; simp only [isLetter, decide_eq_true_eq, true_iff, Bool.false_eq_true, false_iff]; omega, rfl⟩
  ·
   intro hg9
   try simp only [dn] at hg9
   refine vc_y rfl rfl (y_mv rfl) ?_
   refine vc_y rfl rfl (y_geq rfl rfl) ?_
   refine vc_e (e_mvb rfl rfl rfl ?_ ?_)
   ·
    intro hg12
    try simp only [dn] at hg12
    refine vc_y rfl rfl (y_mv rfl) ?_
    refine vc_y rfl rfl (y_leq rfl rfl) ?_
    refine vc_y rfl rfl (y_pickt rfl rfl) ?_
    refine vc_y rfl rfl (y_pickf rfl rfl) ?_
    refine vc_e (e_mvb rfl rfl rfl ?_ ?_)
    ·
     intro hg17
     try simp only [dn] at hg17
     iterate 2 refine vc_e (e_skip rfl rfl ?_)
     refine vc_y rfl rfl (y_pickt rfl rfl) ?_
     refine vc_y rfl rfl (y_as rfl) ?_
     refine vc_end (vq_then (vc_keep [(2, _)] ⟨rfl, trivial⟩ (vc_ret ?_)))
     refine vq_ret1 st (.inl rfl) results72 (.tmp rfl) ?_
     refine ⟨_, rfl, ?_⟩
     exact ⟨by rw [Value.bool.injEq, Bool.eq_iff_iff]; simp only [isLetter, decide_eq_true_eq, true_iff, Bool.false_eq_true, false_iff]; omega, rfl⟩
    ·
     intro hg17
     try simp only [dn] at hg17
     refine vc_y rfl rfl (y_mv rfl) ?_
     refine vc_y rfl rfl (y_eqi rfl rfl) ?_
     refine vc_y rfl rfl (y_pickf rfl rfl) ?_
     refine vc_y rfl rfl (y_as rfl) ?_
     refine vc_end (vq_then (vc_keep [(2, _)] ⟨rfl, trivial⟩ (vc_ret ?_)))
     refine vq_ret1 st (.inl rfl) results72 (.tmp rfl) ?_
     refine ⟨_, rfl, ?_⟩
     exact ⟨by rw [Value.bool.injEq, Bool.eq_iff_iff]; simp only [isLetter, decide_eq_true_eq, true_iff, Bool.false_eq_true, false_iff]; omega, rfl⟩
   ·
    intro hg12
    try simp only [dn] at hg12
    iterate 2 refine vc_e (e_skip rfl rfl ?_)
    iterate 2 refine vc_y rfl rfl (y_pickf rfl rfl) ?_
    iterate 2 refine vc_y rfl rfl (y_mv rfl) ?_
    refine vc_y rfl rfl (y_eqi rfl rfl) ?_
    refine vc_y rfl rfl (y_pickf rfl rfl) ?_
    refine vc_y rfl rfl (y_as rfl) ?_
    refine vc_end (vq_then (vc_keep [(2, _)] ⟨rfl, trivial⟩ (vc_ret ?_)))
    refine vq_ret1 st (.inl rfl) results72 (.tmp rfl) ?_
    refine ⟨_, rfl, ?_⟩
    exact ⟨by rw [Value.bool.injEq, Bool.eq_iff_iff]; simp only [isLetter, decide_eq_true_eq, true_iff, Bool.false_eq_true, false_iff]; omega, rfl⟩
 ·
  intro hg5
  try simp only [dn] at hg5
  iterate 2 refine vc_e (e_skip rfl rfl ?_)
  refine vc_y rfl rfl (y_pickf rfl rfl) ?_
  iterate 2 refine vc_y rfl rfl (y_mv rfl) ?_
  refine vc_y rfl rfl (y_geq rfl rfl) ?_
  refine vc_e (e_mvb rfl rfl rfl ?_ ?_)
  ·
   intro hg12
   try simp only [dn] at hg12
   refine vc_y rfl rfl (y_mv rfl) ?_
   refine vc_y rfl rfl (y_leq rfl rfl) ?_
   refine vc_y rfl rfl (y_pickt rfl rfl) ?_
   refine vc_y rfl rfl (y_pickf rfl rfl) ?_
   refine vc_e (e_mvb rfl rfl rfl ?_ ?_)
   ·
    intro hg17
    try simp only [dn] at hg17
    iterate 2 refine vc_e (e_skip rfl rfl ?_)
    refine vc_y rfl rfl (y_pickt rfl rfl) ?_
    refine vc_y rfl rfl (y_as rfl) ?_
    refine vc_end (vq_then (vc_keep [(2, _)] ⟨rfl, trivial⟩ (vc_ret ?_)))
    refine vq_ret1 st (.inl rfl) results72 (.tmp rfl) ?_
    refine ⟨_, rfl, ?_⟩
    exact ⟨by rw [Value.bool.injEq, Bool.eq_iff_iff]; simp only [isLetter, decide_eq_true_eq, true_iff, Bool.false_eq_true, false_iff]; omega, rfl⟩
   ·
    intro hg17
    try simp only [dn] at hg17
    refine vc_y rfl rfl (y_mv rfl) ?_
    refine vc_y rfl rfl (y_eqi rfl rfl) ?_
    refine vc_y rfl rfl (y_pickf rfl rfl) ?_
    refine vc_y rfl rfl (y_as rfl) ?_
    refine vc_end (vq_then (vc_keep [(2, _)] ⟨rfl, trivial⟩ (vc_ret ?_)))
    refine vq_ret1 st (.inl rfl) results72 (.tmp rfl) ?_
    refine ⟨_, rfl, ?_⟩
    exact ⟨by rw [Value.bool.injEq, Bool.eq_iff_iff]; simp only [isLetter, decide_eq_true_eq, true_iff, Bool.false_eq_true, false_iff]; omega, rfl⟩
  ·
   intro hg12
   try simp only [dn] at hg12
   iterate 2 refine vc_e (e_skip rfl rfl ?_)
   iterate 2 refine vc_y rfl rfl (y_pickf rfl rfl) ?_
   iterate 2 refine vc_y rfl rfl (y_mv rfl) ?_
   refine vc_y rfl rfl (y_eqi rfl rfl) ?_
   refine vc_y rfl rfl (y_pickf rfl rfl) ?_
   refine vc_y rfl rfl (y_as rfl) ?_
   refine vc_end (vq_then (vc_keep [(2, _)] ⟨rfl, trivial⟩ (vc_ret ?_)))
   refine vq_ret1 st (.inl rfl) results72 (.tmp rfl) ?_
   refine ⟨_, rfl, ?_⟩
   exact ⟨by rw [Value.bool.injEq, Bool.eq_iff_iff]; simp only [isLetter, decide_eq_true_eq, true_iff, Bool.false_eq_true, false_iff]; omega, rfl⟩

theorem rdigit_any (c : UInt8) (w : World) : Ret Tryd.prog 86 [.int .u8 (c.toNat : Int)] w fun v w' => v = .bool (isDigit c) ∧ w' = w := by
 refine ret_of [_] func86 rfl ntmps86 rfl ?_
 have st := St.init w []
 refine vc_seq (vc_region ?_)
 refine vc_y rfl rfl (y_as rfl) ?_
 refine vc_end (vq_then (vc_keep [(0, _)] ⟨rfl, trivial⟩ (vc_seq (vc_region ?_))))
 refine vc_y rfl rfl (y_mv rfl) ?_
 refine vc_y rfl rfl (y_geq rfl rfl) ?_
 refine vc_e (e_mvb rfl rfl rfl ?_ ?_)
 ·
  intro hg5
  try simp only [dn] at hg5
  refine vc_y rfl rfl (y_mv rfl) ?_
  refine vc_y rfl rfl (y_leq rfl rfl) ?_
  refine vc_y rfl rfl (y_pickt rfl rfl) ?_
  refine vc_y rfl rfl (y_as rfl) ?_
  refine vc_end (vq_then (vc_keep [(2, _)] ⟨rfl, trivial⟩ (vc_ret ?_)))
  refine vq_ret1 st (.inl rfl) results86 (.tmp rfl) ?_
  refine ⟨_, rfl, ?_⟩
  exact ⟨by rw [Value.bool.injEq, Bool.eq_iff_iff]; simp only [isDigit, decide_eq_true_eq, true_iff, Bool.false_eq_true, false_iff]; omega, rfl⟩
 ·
  intro hg5
  try simp only [dn] at hg5
  iterate 2 refine vc_e (e_skip rfl rfl ?_)
  refine vc_y rfl rfl (y_pickf rfl rfl) ?_
  refine vc_y rfl rfl (y_as rfl) ?_
  refine vc_end (vq_then (vc_keep [(2, _)] ⟨rfl, trivial⟩ (vc_ret ?_)))
  refine vq_ret1 st (.inl rfl) results86 (.tmp rfl) ?_
  refine ⟨_, rfl, ?_⟩
  exact ⟨by rw [Value.bool.injEq, Bool.eq_iff_iff]; simp only [isDigit, decide_eq_true_eq, true_iff, Bool.false_eq_true, false_iff]; omega, rfl⟩

theorem rletter_any (c : UInt8) (w : World) : Ret Tryd.prog 88 [.int .u8 (c.toNat : Int)] w fun v w' => v = .bool (isLetter c) ∧ w' = w := by
 refine ret_of [_] func88 rfl ntmps88 rfl ?_
 have st := St.init w []
 refine vc_seq (vc_region ?_)
 refine vc_y rfl rfl (y_as rfl) ?_
 refine vc_end (vq_then (vc_keep [(0, _)] ⟨rfl, trivial⟩ (vc_seq (vc_region ?_))))
 refine vc_y rfl rfl (y_mv rfl) ?_
 refine vc_y rfl rfl (y_geq rfl rfl) ?_
 refine vc_e (e_mvb rfl rfl rfl ?_ ?_)
 ·
  intro hg5
  try simp only [dn] at hg5
  refine vc_y rfl rfl (y_mv rfl) ?_
  refine vc_y rfl rfl (y_leq rfl rfl) ?_
  refine vc_y rfl rfl (y_pickt rfl rfl) ?_
  refine vc_e (e_mvb rfl rfl rfl ?_ ?_)
  ·
   intro hg9
   try simp only [dn] at hg9
   iterate 6 refine vc_e (e_skip rfl rfl ?_)
   refine vc_y rfl rfl (y_pickt rfl rfl) ?_
   refine vc_y rfl rfl (y_mv rfl) ?_
   iterate 2 refine vc_e (e_skip rfl rfl ?_)
   refine vc_y rfl rfl (y_pickt rfl rfl) ?_
   refine vc_y rfl rfl (y_as rfl) ?_
   refine vc_end (vq_then (vc_keep [(2, _)] ⟨rfl, trivial⟩ (vc_ret ?_)))
   refine vq_ret1 st (.inl rfl) results88 (.tmp rfl) ?_
   refine ⟨_, rfl, ?_⟩
   exact ⟨by rw [Value.bool.injEq, Bool.eq_iff_iff]; simp only [isLetter, decide_eq_true_eq, true_iff, Bool.false_eq_true, false_iff]; omega, rfl⟩
  ·
   intro hg9
   try simp only [dn] at hg9
   refine vc_y rfl rfl (y_mv rfl) ?_
   refine vc_y rfl rfl (y_geq rfl rfl) ?_
   refine vc_e (e_mvb rfl rfl rfl ?_ ?_)
   ·
    intro hg12
    try simp only [dn] at hg12
    refine vc_y rfl rfl (y_mv rfl) ?_
    refine vc_y rfl rfl (y_leq rfl rfl) ?_
    refine vc_y rfl rfl (y_pickt rfl rfl) ?_
    refine vc_y rfl rfl (y_pickf rfl rfl) ?_
    refine vc_e (e_mvb rfl rfl rfl ?_ ?_)
    ·
     intro hg17
     try simp only [dn] at hg17
     iterate 2 refine vc_e (e_skip rfl rfl ?_)
     refine vc_y rfl rfl (y_pickt rfl rfl) ?_
     refine vc_y rfl rfl (y_as rfl) ?_
     refine vc_end (vq_then (vc_keep [(2, _)] ⟨rfl, trivial⟩ (vc_ret ?_)))
     refine vq_ret1 st (.inl rfl) results88 (.tmp rfl) ?_
     refine ⟨_, rfl, ?_⟩
     exact ⟨by rw [Value.bool.injEq, Bool.eq_iff_iff]; simp only [isLetter, decide_eq_true_eq, true_iff, Bool.false_eq_true, false_iff]; omega, rfl⟩
    ·
     intro hg17
     try simp only [dn] at hg17
     refine vc_y rfl rfl (y_mv rfl) ?_
     refine vc_y rfl rfl (y_eqi rfl rfl) ?_
     refine vc_y rfl rfl (y_pickf rfl rfl) ?_
     refine vc_y rfl rfl (y_as rfl) ?_
     refine vc_end (vq_then (vc_keep [(2, _)] ⟨rfl, trivial⟩ (vc_ret ?_)))
     refine vq_ret1 st (.inl rfl) results88 (.tmp rfl) ?_
     refine ⟨_, rfl, ?_⟩
     exact ⟨by rw [Value.bool.injEq, Bool.eq_iff_iff]; simp only [isLetter, decide_eq_true_eq, true_iff, Bool.false_eq_true, false_iff]; omega, rfl⟩
   ·
    intro hg12
    try simp only [dn] at hg12
    iterate 2 refine vc_e (e_skip rfl rfl ?_)
    iterate 2 refine vc_y rfl rfl (y_pickf rfl rfl) ?_
    iterate 2 refine vc_y rfl rfl (y_mv rfl) ?_
    refine vc_y rfl rfl (y_eqi rfl rfl) ?_
    refine vc_y rfl rfl (y_pickf rfl rfl) ?_
    refine vc_y rfl rfl (y_as rfl) ?_
    refine vc_end (vq_then (vc_keep [(2, _)] ⟨rfl, trivial⟩ (vc_ret ?_)))
    refine vq_ret1 st (.inl rfl) results88 (.tmp rfl) ?_
    refine ⟨_, rfl, ?_⟩
    exact ⟨by rw [Value.bool.injEq, Bool.eq_iff_iff]; simp only [isLetter, decide_eq_true_eq, true_iff, Bool.false_eq_true, false_iff]; omega, rfl⟩
 ·
  intro hg5
  try simp only [dn] at hg5
  iterate 2 refine vc_e (e_skip rfl rfl ?_)
  refine vc_y rfl rfl (y_pickf rfl rfl) ?_
  iterate 2 refine vc_y rfl rfl (y_mv rfl) ?_
  refine vc_y rfl rfl (y_geq rfl rfl) ?_
  refine vc_e (e_mvb rfl rfl rfl ?_ ?_)
  ·
   intro hg12
   try simp only [dn] at hg12
   refine vc_y rfl rfl (y_mv rfl) ?_
   refine vc_y rfl rfl (y_leq rfl rfl) ?_
   refine vc_y rfl rfl (y_pickt rfl rfl) ?_
   refine vc_y rfl rfl (y_pickf rfl rfl) ?_
   refine vc_e (e_mvb rfl rfl rfl ?_ ?_)
   ·
    intro hg17
    try simp only [dn] at hg17
    iterate 2 refine vc_e (e_skip rfl rfl ?_)
    refine vc_y rfl rfl (y_pickt rfl rfl) ?_
    refine vc_y rfl rfl (y_as rfl) ?_
    refine vc_end (vq_then (vc_keep [(2, _)] ⟨rfl, trivial⟩ (vc_ret ?_)))
    refine vq_ret1 st (.inl rfl) results88 (.tmp rfl) ?_
    refine ⟨_, rfl, ?_⟩
    exact ⟨by rw [Value.bool.injEq, Bool.eq_iff_iff]; simp only [isLetter, decide_eq_true_eq, true_iff, Bool.false_eq_true, false_iff]; omega, rfl⟩
   ·
    intro hg17
    try simp only [dn] at hg17
    refine vc_y rfl rfl (y_mv rfl) ?_
    refine vc_y rfl rfl (y_eqi rfl rfl) ?_
    refine vc_y rfl rfl (y_pickf rfl rfl) ?_
    refine vc_y rfl rfl (y_as rfl) ?_
    refine vc_end (vq_then (vc_keep [(2, _)] ⟨rfl, trivial⟩ (vc_ret ?_)))
    refine vq_ret1 st (.inl rfl) results88 (.tmp rfl) ?_
    refine ⟨_, rfl, ?_⟩
    exact ⟨by rw [Value.bool.injEq, Bool.eq_iff_iff]; simp only [isLetter, decide_eq_true_eq, true_iff, Bool.false_eq_true, false_iff]; omega, rfl⟩
  ·
   intro hg12
   try simp only [dn] at hg12
   iterate 2 refine vc_e (e_skip rfl rfl ?_)
   iterate 2 refine vc_y rfl rfl (y_pickf rfl rfl) ?_
   iterate 2 refine vc_y rfl rfl (y_mv rfl) ?_
   refine vc_y rfl rfl (y_eqi rfl rfl) ?_
   refine vc_y rfl rfl (y_pickf rfl rfl) ?_
   refine vc_y rfl rfl (y_as rfl) ?_
   refine vc_end (vq_then (vc_keep [(2, _)] ⟨rfl, trivial⟩ (vc_ret ?_)))
   refine vq_ret1 st (.inl rfl) results88 (.tmp rfl) ?_
   refine ⟨_, rfl, ?_⟩
   exact ⟨by rw [Value.bool.injEq, Bool.eq_iff_iff]; simp only [isLetter, decide_eq_true_eq, true_iff, Bool.false_eq_true, false_iff]; omega, rfl⟩

end Go.Proofs.YtnmhlpnapgojjaaDoor

namespace Go.Proofs.YtnmhlpnapgojjaaDoor
open Go.RowKit Sx LexS _root_.Go.Proofs.Tryd
set_option linter.unusedVariables false
set_option linter.unusedSimpArgs false

set_option maxHeartbeats 1000000 in
theorem word_any (l : List UInt8) (w : World) : Ret Tryd.prog 71 [str l] w fun v w' => v = .bool (isWord l) ∧ w' = w := by
 refine ret_of [_] func71 rfl ntmps71 rfl ?_
 have st := St.init w []
 refine vc_seq (vc_region ?_)
 refine vc_y rfl rfl (y_as rfl) ?_
 refine vc_end (vq_then (vc_keep [(0, _)] ⟨rfl, trivial⟩ (vc_seq (vc_seq (vc_region ?_)))))
 refine vc_y rfl rfl (y_mv rfl) ?_
 refine vc_end (vq_then (vc_keep [(3, _)] ⟨rfl, trivial⟩ (vc_block (vc_seq (vc_seq (vc_region ?_))))))
 refine vc_y rfl rfl (y_eqs rfl rfl) ?_
 refine vc_y rfl rfl (y_as rfl) ?_
 refine vc_end (vq_then (vc_keep [(3, _), (4, _)] ⟨rfl, rfl, trivial⟩ ?_))
 refine vc_ifs rfl ?_ ?_
 ·
  intro hc4
  try simp only [dn] at hc4
  refine vc_code_skip (vq_then (vc_keep [(4, _)] ⟨rfl, trivial⟩ ?_))
  refine vc_ift rfl ?_
  refine vc_seq (vc_region ?_)
  refine vc_y rfl rfl (y_as rfl) ?_
  refine vc_end (vq_then (vc_keep [(2, _)] ⟨rfl, trivial⟩ (vc_ret (vq_block_ret (vq_then_ret ?_)))))
  refine vq_ret1 st (.inl rfl) results71 (.tmp rfl) ?_
  refine ⟨_, rfl, ?_⟩
  refine ⟨?_, rfl⟩
  rw [Value.bool.injEq]
  first
  | (symm; simp only [isWord, decide_eq_true_eq]; simp only [wShared, wLock, wThread, wLocal, wIf, wElse, wWhile, wPrint, wSkip, wSwap]; simp only [*, true_or, or_true]; done)
  | (symm; simp only [isWord, decide_eq_false_iff_not]; simp only [wShared, wLock, wThread, wLocal, wIf, wElse, wWhile, wPrint, wSkip, wSwap]; simp only [*, or_self, not_false_eq_true])
 ·
  intro hc4
  try simp only [dn] at hc4
  refine vc_seq (vc_region ?_)
  refine vc_y rfl rfl (y_eqs rfl rfl) ?_
  refine vc_y rfl rfl (y_as rfl) ?_
  refine vc_end (vq_then (vc_keep [(3, _), (4, _)] ⟨rfl, rfl, trivial⟩ ?_))
  refine vc_ifs rfl ?_ ?_
  ·
   intro hc4
   try simp only [dn] at hc4
   refine vc_code_skip (vq_then (vc_keep [(4, _)] ⟨rfl, trivial⟩ ?_))
   refine vc_ift rfl ?_
   refine vc_seq (vc_region ?_)
   refine vc_y rfl rfl (y_as rfl) ?_
   refine vc_end (vq_then (vc_keep [(2, _)] ⟨rfl, trivial⟩ (vc_ret (vq_block_ret (vq_then_ret ?_)))))
   refine vq_ret1 st (.inl rfl) results71 (.tmp rfl) ?_
   refine ⟨_, rfl, ?_⟩
   refine ⟨?_, rfl⟩
   rw [Value.bool.injEq]
   first
   | (symm; simp only [isWord, decide_eq_true_eq]; simp only [wShared, wLock, wThread, wLocal, wIf, wElse, wWhile, wPrint, wSkip, wSwap]; simp only [*, true_or, or_true]; done)
   | (symm; simp only [isWord, decide_eq_false_iff_not]; simp only [wShared, wLock, wThread, wLocal, wIf, wElse, wWhile, wPrint, wSkip, wSwap]; simp only [*, or_self, not_false_eq_true])
  ·
   intro hc4
   try simp only [dn] at hc4
   refine vc_seq (vc_region ?_)
   refine vc_y rfl rfl (y_eqs rfl rfl) ?_
   refine vc_y rfl rfl (y_as rfl) ?_
   refine vc_end (vq_then (vc_keep [(3, _), (4, _)] ⟨rfl, rfl, trivial⟩ ?_))
   refine vc_ifs rfl ?_ ?_
   ·
    intro hc4
    try simp only [dn] at hc4
    refine vc_code_skip (vq_then (vc_keep [(4, _)] ⟨rfl, trivial⟩ ?_))
    refine vc_ift rfl ?_
    refine vc_seq (vc_region ?_)
    refine vc_y rfl rfl (y_as rfl) ?_
    refine vc_end (vq_then (vc_keep [(2, _)] ⟨rfl, trivial⟩ (vc_ret (vq_block_ret (vq_then_ret ?_)))))
    refine vq_ret1 st (.inl rfl) results71 (.tmp rfl) ?_
    refine ⟨_, rfl, ?_⟩
    refine ⟨?_, rfl⟩
    rw [Value.bool.injEq]
    first
    | (symm; simp only [isWord, decide_eq_true_eq]; simp only [wShared, wLock, wThread, wLocal, wIf, wElse, wWhile, wPrint, wSkip, wSwap]; simp only [*, true_or, or_true]; done)
    | (symm; simp only [isWord, decide_eq_false_iff_not]; simp only [wShared, wLock, wThread, wLocal, wIf, wElse, wWhile, wPrint, wSkip, wSwap]; simp only [*, or_self, not_false_eq_true])
   ·
    intro hc4
    try simp only [dn] at hc4
    refine vc_seq (vc_region ?_)
    refine vc_y rfl rfl (y_eqs rfl rfl) ?_
    refine vc_y rfl rfl (y_as rfl) ?_
    refine vc_end (vq_then (vc_keep [(3, _), (4, _)] ⟨rfl, rfl, trivial⟩ ?_))
    refine vc_ifs rfl ?_ ?_
    ·
     intro hc4
     try simp only [dn] at hc4
     refine vc_code_skip (vq_then (vc_keep [(4, _)] ⟨rfl, trivial⟩ ?_))
     refine vc_ift rfl ?_
     refine vc_seq (vc_region ?_)
     refine vc_y rfl rfl (y_as rfl) ?_
     refine vc_end (vq_then (vc_keep [(2, _)] ⟨rfl, trivial⟩ (vc_ret (vq_block_ret (vq_then_ret ?_)))))
     refine vq_ret1 st (.inl rfl) results71 (.tmp rfl) ?_
     refine ⟨_, rfl, ?_⟩
     refine ⟨?_, rfl⟩
     rw [Value.bool.injEq]
     first
     | (symm; simp only [isWord, decide_eq_true_eq]; simp only [wShared, wLock, wThread, wLocal, wIf, wElse, wWhile, wPrint, wSkip, wSwap]; simp only [*, true_or, or_true]; done)
     | (symm; simp only [isWord, decide_eq_false_iff_not]; simp only [wShared, wLock, wThread, wLocal, wIf, wElse, wWhile, wPrint, wSkip, wSwap]; simp only [*, or_self, not_false_eq_true])
    ·
     intro hc4
     try simp only [dn] at hc4
     refine vc_seq (vc_region ?_)
     refine vc_y rfl rfl (y_eqs rfl rfl) ?_
     refine vc_y rfl rfl (y_as rfl) ?_
     refine vc_end (vq_then (vc_keep [(3, _), (4, _)] ⟨rfl, rfl, trivial⟩ ?_))
     refine vc_ifs rfl ?_ ?_
     ·
      intro hc4
      try simp only [dn] at hc4
      refine vc_code_skip (vq_then (vc_keep [(4, _)] ⟨rfl, trivial⟩ ?_))
      refine vc_ift rfl ?_
      refine vc_seq (vc_region ?_)
      refine vc_y rfl rfl (y_as rfl) ?_
      refine vc_end (vq_then (vc_keep [(2, _)] ⟨rfl, trivial⟩ (vc_ret (vq_block_ret (vq_then_ret ?_)))))
      refine vq_ret1 st (.inl rfl) results71 (.tmp rfl) ?_
      refine ⟨_, rfl, ?_⟩
      refine ⟨?_, rfl⟩
      rw [Value.bool.injEq]
      first
      | (symm; simp only [isWord, decide_eq_true_eq]; simp only [wShared, wLock, wThread, wLocal, wIf, wElse, wWhile, wPrint, wSkip, wSwap]; simp only [*, true_or, or_true]; done)
      | (symm; simp only [isWord, decide_eq_false_iff_not]; simp only [wShared, wLock, wThread, wLocal, wIf, wElse, wWhile, wPrint, wSkip, wSwap]; simp only [*, or_self, not_false_eq_true])
     ·
      intro hc4
      try simp only [dn] at hc4
      refine vc_seq (vc_region ?_)
      refine vc_y rfl rfl (y_eqs rfl rfl) ?_
      refine vc_y rfl rfl (y_as rfl) ?_
      refine vc_end (vq_then (vc_keep [(3, _), (4, _)] ⟨rfl, rfl, trivial⟩ ?_))
      refine vc_ifs rfl ?_ ?_
      ·
       intro hc4
       try simp only [dn] at hc4
       refine vc_code_skip (vq_then (vc_keep [(4, _)] ⟨rfl, trivial⟩ ?_))
       refine vc_ift rfl ?_
       refine vc_seq (vc_region ?_)
       refine vc_y rfl rfl (y_as rfl) ?_
       refine vc_end (vq_then (vc_keep [(2, _)] ⟨rfl, trivial⟩ (vc_ret (vq_block_ret (vq_then_ret ?_)))))
       refine vq_ret1 st (.inl rfl) results71 (.tmp rfl) ?_
       refine ⟨_, rfl, ?_⟩
       refine ⟨?_, rfl⟩
       rw [Value.bool.injEq]
       first
       | (symm; simp only [isWord, decide_eq_true_eq]; simp only [wShared, wLock, wThread, wLocal, wIf, wElse, wWhile, wPrint, wSkip, wSwap]; simp only [*, true_or, or_true]; done)
       | (symm; simp only [isWord, decide_eq_false_iff_not]; simp only [wShared, wLock, wThread, wLocal, wIf, wElse, wWhile, wPrint, wSkip, wSwap]; simp only [*, or_self, not_false_eq_true])
      ·
       intro hc4
       try simp only [dn] at hc4
       refine vc_seq (vc_region ?_)
       refine vc_y rfl rfl (y_eqs rfl rfl) ?_
       refine vc_y rfl rfl (y_as rfl) ?_
       refine vc_end (vq_then (vc_keep [(3, _), (4, _)] ⟨rfl, rfl, trivial⟩ ?_))
       refine vc_ifs rfl ?_ ?_
       ·
        intro hc4
        try simp only [dn] at hc4
        refine vc_code_skip (vq_then (vc_keep [(4, _)] ⟨rfl, trivial⟩ ?_))
        refine vc_ift rfl ?_
        refine vc_seq (vc_region ?_)
        refine vc_y rfl rfl (y_as rfl) ?_
        refine vc_end (vq_then (vc_keep [(2, _)] ⟨rfl, trivial⟩ (vc_ret (vq_block_ret (vq_then_ret ?_)))))
        refine vq_ret1 st (.inl rfl) results71 (.tmp rfl) ?_
        refine ⟨_, rfl, ?_⟩
        refine ⟨?_, rfl⟩
        rw [Value.bool.injEq]
        first
        | (symm; simp only [isWord, decide_eq_true_eq]; simp only [wShared, wLock, wThread, wLocal, wIf, wElse, wWhile, wPrint, wSkip, wSwap]; simp only [*, true_or, or_true]; done)
        | (symm; simp only [isWord, decide_eq_false_iff_not]; simp only [wShared, wLock, wThread, wLocal, wIf, wElse, wWhile, wPrint, wSkip, wSwap]; simp only [*, or_self, not_false_eq_true])
       ·
        intro hc4
        try simp only [dn] at hc4
        refine vc_seq (vc_region ?_)
        refine vc_y rfl rfl (y_eqs rfl rfl) ?_
        refine vc_y rfl rfl (y_as rfl) ?_
        refine vc_end (vq_then (vc_keep [(3, _), (4, _)] ⟨rfl, rfl, trivial⟩ ?_))
        refine vc_ifs rfl ?_ ?_
        ·
         intro hc4
         try simp only [dn] at hc4
         refine vc_code_skip (vq_then (vc_keep [(4, _)] ⟨rfl, trivial⟩ ?_))
         refine vc_ift rfl ?_
         refine vc_seq (vc_region ?_)
         refine vc_y rfl rfl (y_as rfl) ?_
         refine vc_end (vq_then (vc_keep [(2, _)] ⟨rfl, trivial⟩ (vc_ret (vq_block_ret (vq_then_ret ?_)))))
         refine vq_ret1 st (.inl rfl) results71 (.tmp rfl) ?_
         refine ⟨_, rfl, ?_⟩
         refine ⟨?_, rfl⟩
         rw [Value.bool.injEq]
         first
         | (symm; simp only [isWord, decide_eq_true_eq]; simp only [wShared, wLock, wThread, wLocal, wIf, wElse, wWhile, wPrint, wSkip, wSwap]; simp only [*, true_or, or_true]; done)
         | (symm; simp only [isWord, decide_eq_false_iff_not]; simp only [wShared, wLock, wThread, wLocal, wIf, wElse, wWhile, wPrint, wSkip, wSwap]; simp only [*, or_self, not_false_eq_true])
        ·
         intro hc4
         try simp only [dn] at hc4
         refine vc_seq (vc_region ?_)
         refine vc_y rfl rfl (y_eqs rfl rfl) ?_
         refine vc_y rfl rfl (y_as rfl) ?_
         refine vc_end (vq_then (vc_keep [(3, _), (4, _)] ⟨rfl, rfl, trivial⟩ ?_))
         refine vc_ifs rfl ?_ ?_
         ·
          intro hc4
          try simp only [dn] at hc4
          refine vc_code_skip (vq_then (vc_keep [(4, _)] ⟨rfl, trivial⟩ ?_))
          refine vc_ift rfl ?_
          refine vc_seq (vc_region ?_)
          refine vc_y rfl rfl (y_as rfl) ?_
          refine vc_end (vq_then (vc_keep [(2, _)] ⟨rfl, trivial⟩ (vc_ret (vq_block_ret (vq_then_ret ?_)))))
          refine vq_ret1 st (.inl rfl) results71 (.tmp rfl) ?_
          refine ⟨_, rfl, ?_⟩
          refine ⟨?_, rfl⟩
          rw [Value.bool.injEq]
          first
          | (symm; simp only [isWord, decide_eq_true_eq]; simp only [wShared, wLock, wThread, wLocal, wIf, wElse, wWhile, wPrint, wSkip, wSwap]; simp only [*, true_or, or_true]; done)
          | (symm; simp only [isWord, decide_eq_false_iff_not]; simp only [wShared, wLock, wThread, wLocal, wIf, wElse, wWhile, wPrint, wSkip, wSwap]; simp only [*, or_self, not_false_eq_true])
         ·
          intro hc4
          try simp only [dn] at hc4
          refine vc_region ?_
          refine vc_y rfl rfl (y_eqs rfl rfl) ?_
          refine vc_y rfl rfl (y_as rfl) ?_
          refine vc_end (vq_then (vc_keep [(4, _)] ⟨rfl, trivial⟩ ?_))
          refine vc_ifs rfl ?_ ?_
          ·
           intro hc4
           try simp only [dn] at hc4
           refine vc_seq (vc_region ?_)
           refine vc_y rfl rfl (y_as rfl) ?_
           refine vc_end (vq_then (vc_keep [(2, _)] ⟨rfl, trivial⟩ (vc_ret (vq_block_ret (vq_then_ret ?_)))))
           refine vq_ret1 st (.inl rfl) results71 (.tmp rfl) ?_
           refine ⟨_, rfl, ?_⟩
           refine ⟨?_, rfl⟩
           rw [Value.bool.injEq]
           first
           | (symm; simp only [isWord, decide_eq_true_eq]; simp only [wShared, wLock, wThread, wLocal, wIf, wElse, wWhile, wPrint, wSkip, wSwap]; simp only [*, true_or, or_true]; done)
           | (symm; simp only [isWord, decide_eq_false_iff_not]; simp only [wShared, wLock, wThread, wLocal, wIf, wElse, wWhile, wPrint, wSkip, wSwap]; simp only [*, or_self, not_false_eq_true])
          ·
           intro hc4
           try simp only [dn] at hc4
           refine vc_code_skip (vq_block (vq_then (vc_keep [] trivial (vc_seq (vc_region ?_)))))
           refine vc_y rfl rfl (y_as rfl) ?_
           refine vc_end (vq_then (vc_keep [(2, _)] ⟨rfl, trivial⟩ (vc_ret ?_)))
           refine vq_ret1 st (.inl rfl) results71 (.tmp rfl) ?_
           refine ⟨_, rfl, ?_⟩
           refine ⟨?_, rfl⟩
           rw [Value.bool.injEq]
           first
           | (symm; simp only [isWord, decide_eq_true_eq]; simp only [wShared, wLock, wThread, wLocal, wIf, wElse, wWhile, wPrint, wSkip, wSwap]; simp only [*, true_or, or_true]; done)
           | (symm; simp only [isWord, decide_eq_false_iff_not]; simp only [wShared, wLock, wThread, wLocal, wIf, wElse, wWhile, wPrint, wSkip, wSwap]; simp only [*, or_self, not_false_eq_true])

set_option maxHeartbeats 1000000 in
theorem rword_any (l : List UInt8) (w : World) : Ret Tryd.prog 87 [str l] w fun v w' => v = .bool (isWord l) ∧ w' = w := by
 refine ret_of [_] func87 rfl ntmps87 rfl ?_
 have st := St.init w []
 refine vc_seq (vc_region ?_)
 refine vc_y rfl rfl (y_as rfl) ?_
 refine vc_end (vq_then (vc_keep [(0, _)] ⟨rfl, trivial⟩ (vc_seq (vc_seq (vc_region ?_)))))
 refine vc_y rfl rfl (y_mv rfl) ?_
 refine vc_end (vq_then (vc_keep [(3, _)] ⟨rfl, trivial⟩ (vc_block (vc_seq (vc_seq (vc_region ?_))))))
 refine vc_y rfl rfl (y_eqs rfl rfl) ?_
 refine vc_y rfl rfl (y_as rfl) ?_
 refine vc_end (vq_then (vc_keep [(3, _), (4, _)] ⟨rfl, rfl, trivial⟩ ?_))
 refine vc_ifs rfl ?_ ?_
 ·
  intro hc4
  try simp only [dn] at hc4
  refine vc_code_skip (vq_then (vc_keep [(4, _)] ⟨rfl, trivial⟩ ?_))
  refine vc_ift rfl ?_
  refine vc_seq (vc_region ?_)
  refine vc_y rfl rfl (y_as rfl) ?_
  refine vc_end (vq_then (vc_keep [(2, _)] ⟨rfl, trivial⟩ (vc_ret (vq_block_ret (vq_then_ret ?_)))))
  refine vq_ret1 st (.inl rfl) results87 (.tmp rfl) ?_
  refine ⟨_, rfl, ?_⟩
  refine ⟨?_, rfl⟩
  rw [Value.bool.injEq]
  first
  | (symm; simp only [isWord, decide_eq_true_eq]; simp only [wShared, wLock, wThread, wLocal, wIf, wElse, wWhile, wPrint, wSkip, wSwap]; simp only [*, true_or, or_true]; done)
  | (symm; simp only [isWord, decide_eq_false_iff_not]; simp only [wShared, wLock, wThread, wLocal, wIf, wElse, wWhile, wPrint, wSkip, wSwap]; simp only [*, or_self, not_false_eq_true])
 ·
  intro hc4
  try simp only [dn] at hc4
  refine vc_seq (vc_region ?_)
  refine vc_y rfl rfl (y_eqs rfl rfl) ?_
  refine vc_y rfl rfl (y_as rfl) ?_
  refine vc_end (vq_then (vc_keep [(3, _), (4, _)] ⟨rfl, rfl, trivial⟩ ?_))
  refine vc_ifs rfl ?_ ?_
  ·
   intro hc4
   try simp only [dn] at hc4
   refine vc_code_skip (vq_then (vc_keep [(4, _)] ⟨rfl, trivial⟩ ?_))
   refine vc_ift rfl ?_
   refine vc_seq (vc_region ?_)
   refine vc_y rfl rfl (y_as rfl) ?_
   refine vc_end (vq_then (vc_keep [(2, _)] ⟨rfl, trivial⟩ (vc_ret (vq_block_ret (vq_then_ret ?_)))))
   refine vq_ret1 st (.inl rfl) results87 (.tmp rfl) ?_
   refine ⟨_, rfl, ?_⟩
   refine ⟨?_, rfl⟩
   rw [Value.bool.injEq]
   first
   | (symm; simp only [isWord, decide_eq_true_eq]; simp only [wShared, wLock, wThread, wLocal, wIf, wElse, wWhile, wPrint, wSkip, wSwap]; simp only [*, true_or, or_true]; done)
   | (symm; simp only [isWord, decide_eq_false_iff_not]; simp only [wShared, wLock, wThread, wLocal, wIf, wElse, wWhile, wPrint, wSkip, wSwap]; simp only [*, or_self, not_false_eq_true])
  ·
   intro hc4
   try simp only [dn] at hc4
   refine vc_seq (vc_region ?_)
   refine vc_y rfl rfl (y_eqs rfl rfl) ?_
   refine vc_y rfl rfl (y_as rfl) ?_
   refine vc_end (vq_then (vc_keep [(3, _), (4, _)] ⟨rfl, rfl, trivial⟩ ?_))
   refine vc_ifs rfl ?_ ?_
   ·
    intro hc4
    try simp only [dn] at hc4
    refine vc_code_skip (vq_then (vc_keep [(4, _)] ⟨rfl, trivial⟩ ?_))
    refine vc_ift rfl ?_
    refine vc_seq (vc_region ?_)
    refine vc_y rfl rfl (y_as rfl) ?_
    refine vc_end (vq_then (vc_keep [(2, _)] ⟨rfl, trivial⟩ (vc_ret (vq_block_ret (vq_then_ret ?_)))))
    refine vq_ret1 st (.inl rfl) results87 (.tmp rfl) ?_
    refine ⟨_, rfl, ?_⟩
    refine ⟨?_, rfl⟩
    rw [Value.bool.injEq]
    first
    | (symm; simp only [isWord, decide_eq_true_eq]; simp only [wShared, wLock, wThread, wLocal, wIf, wElse, wWhile, wPrint, wSkip, wSwap]; simp only [*, true_or, or_true]; done)
    | (symm; simp only [isWord, decide_eq_false_iff_not]; simp only [wShared, wLock, wThread, wLocal, wIf, wElse, wWhile, wPrint, wSkip, wSwap]; simp only [*, or_self, not_false_eq_true])
   ·
    intro hc4
    try simp only [dn] at hc4
    refine vc_seq (vc_region ?_)
    refine vc_y rfl rfl (y_eqs rfl rfl) ?_
    refine vc_y rfl rfl (y_as rfl) ?_
    refine vc_end (vq_then (vc_keep [(3, _), (4, _)] ⟨rfl, rfl, trivial⟩ ?_))
    refine vc_ifs rfl ?_ ?_
    ·
     intro hc4
     try simp only [dn] at hc4
     refine vc_code_skip (vq_then (vc_keep [(4, _)] ⟨rfl, trivial⟩ ?_))
     refine vc_ift rfl ?_
     refine vc_seq (vc_region ?_)
     refine vc_y rfl rfl (y_as rfl) ?_
     refine vc_end (vq_then (vc_keep [(2, _)] ⟨rfl, trivial⟩ (vc_ret (vq_block_ret (vq_then_ret ?_)))))
     refine vq_ret1 st (.inl rfl) results87 (.tmp rfl) ?_
     refine ⟨_, rfl, ?_⟩
     refine ⟨?_, rfl⟩
     rw [Value.bool.injEq]
     first
     | (symm; simp only [isWord, decide_eq_true_eq]; simp only [wShared, wLock, wThread, wLocal, wIf, wElse, wWhile, wPrint, wSkip, wSwap]; simp only [*, true_or, or_true]; done)
     | (symm; simp only [isWord, decide_eq_false_iff_not]; simp only [wShared, wLock, wThread, wLocal, wIf, wElse, wWhile, wPrint, wSkip, wSwap]; simp only [*, or_self, not_false_eq_true])
    ·
     intro hc4
     try simp only [dn] at hc4
     refine vc_seq (vc_region ?_)
     refine vc_y rfl rfl (y_eqs rfl rfl) ?_
     refine vc_y rfl rfl (y_as rfl) ?_
     refine vc_end (vq_then (vc_keep [(3, _), (4, _)] ⟨rfl, rfl, trivial⟩ ?_))
     refine vc_ifs rfl ?_ ?_
     ·
      intro hc4
      try simp only [dn] at hc4
      refine vc_code_skip (vq_then (vc_keep [(4, _)] ⟨rfl, trivial⟩ ?_))
      refine vc_ift rfl ?_
      refine vc_seq (vc_region ?_)
      refine vc_y rfl rfl (y_as rfl) ?_
      refine vc_end (vq_then (vc_keep [(2, _)] ⟨rfl, trivial⟩ (vc_ret (vq_block_ret (vq_then_ret ?_)))))
      refine vq_ret1 st (.inl rfl) results87 (.tmp rfl) ?_
      refine ⟨_, rfl, ?_⟩
      refine ⟨?_, rfl⟩
      rw [Value.bool.injEq]
      first
      | (symm; simp only [isWord, decide_eq_true_eq]; simp only [wShared, wLock, wThread, wLocal, wIf, wElse, wWhile, wPrint, wSkip, wSwap]; simp only [*, true_or, or_true]; done)
      | (symm; simp only [isWord, decide_eq_false_iff_not]; simp only [wShared, wLock, wThread, wLocal, wIf, wElse, wWhile, wPrint, wSkip, wSwap]; simp only [*, or_self, not_false_eq_true])
     ·
      intro hc4
      try simp only [dn] at hc4
      refine vc_seq (vc_region ?_)
      refine vc_y rfl rfl (y_eqs rfl rfl) ?_
      refine vc_y rfl rfl (y_as rfl) ?_
      refine vc_end (vq_then (vc_keep [(3, _), (4, _)] ⟨rfl, rfl, trivial⟩ ?_))
      refine vc_ifs rfl ?_ ?_
      ·
       intro hc4
       try simp only [dn] at hc4
       refine vc_code_skip (vq_then (vc_keep [(4, _)] ⟨rfl, trivial⟩ ?_))
       refine vc_ift rfl ?_
       refine vc_seq (vc_region ?_)
       refine vc_y rfl rfl (y_as rfl) ?_
       refine vc_end (vq_then (vc_keep [(2, _)] ⟨rfl, trivial⟩ (vc_ret (vq_block_ret (vq_then_ret ?_)))))
       refine vq_ret1 st (.inl rfl) results87 (.tmp rfl) ?_
       refine ⟨_, rfl, ?_⟩
       refine ⟨?_, rfl⟩
       rw [Value.bool.injEq]
       first
       | (symm; simp only [isWord, decide_eq_true_eq]; simp only [wShared, wLock, wThread, wLocal, wIf, wElse, wWhile, wPrint, wSkip, wSwap]; simp only [*, true_or, or_true]; done)
       | (symm; simp only [isWord, decide_eq_false_iff_not]; simp only [wShared, wLock, wThread, wLocal, wIf, wElse, wWhile, wPrint, wSkip, wSwap]; simp only [*, or_self, not_false_eq_true])
      ·
       intro hc4
       try simp only [dn] at hc4
       refine vc_seq (vc_region ?_)
       refine vc_y rfl rfl (y_eqs rfl rfl) ?_
       refine vc_y rfl rfl (y_as rfl) ?_
       refine vc_end (vq_then (vc_keep [(3, _), (4, _)] ⟨rfl, rfl, trivial⟩ ?_))
       refine vc_ifs rfl ?_ ?_
       ·
        intro hc4
        try simp only [dn] at hc4
        refine vc_code_skip (vq_then (vc_keep [(4, _)] ⟨rfl, trivial⟩ ?_))
        refine vc_ift rfl ?_
        refine vc_seq (vc_region ?_)
        refine vc_y rfl rfl (y_as rfl) ?_
        refine vc_end (vq_then (vc_keep [(2, _)] ⟨rfl, trivial⟩ (vc_ret (vq_block_ret (vq_then_ret ?_)))))
        refine vq_ret1 st (.inl rfl) results87 (.tmp rfl) ?_
        refine ⟨_, rfl, ?_⟩
        refine ⟨?_, rfl⟩
        rw [Value.bool.injEq]
        first
        | (symm; simp only [isWord, decide_eq_true_eq]; simp only [wShared, wLock, wThread, wLocal, wIf, wElse, wWhile, wPrint, wSkip, wSwap]; simp only [*, true_or, or_true]; done)
        | (symm; simp only [isWord, decide_eq_false_iff_not]; simp only [wShared, wLock, wThread, wLocal, wIf, wElse, wWhile, wPrint, wSkip, wSwap]; simp only [*, or_self, not_false_eq_true])
       ·
        intro hc4
        try simp only [dn] at hc4
        refine vc_seq (vc_region ?_)
        refine vc_y rfl rfl (y_eqs rfl rfl) ?_
        refine vc_y rfl rfl (y_as rfl) ?_
        refine vc_end (vq_then (vc_keep [(3, _), (4, _)] ⟨rfl, rfl, trivial⟩ ?_))
        refine vc_ifs rfl ?_ ?_
        ·
         intro hc4
         try simp only [dn] at hc4
         refine vc_code_skip (vq_then (vc_keep [(4, _)] ⟨rfl, trivial⟩ ?_))
         refine vc_ift rfl ?_
         refine vc_seq (vc_region ?_)
         refine vc_y rfl rfl (y_as rfl) ?_
         refine vc_end (vq_then (vc_keep [(2, _)] ⟨rfl, trivial⟩ (vc_ret (vq_block_ret (vq_then_ret ?_)))))
         refine vq_ret1 st (.inl rfl) results87 (.tmp rfl) ?_
         refine ⟨_, rfl, ?_⟩
         refine ⟨?_, rfl⟩
         rw [Value.bool.injEq]
         first
         | (symm; simp only [isWord, decide_eq_true_eq]; simp only [wShared, wLock, wThread, wLocal, wIf, wElse, wWhile, wPrint, wSkip, wSwap]; simp only [*, true_or, or_true]; done)
         | (symm; simp only [isWord, decide_eq_false_iff_not]; simp only [wShared, wLock, wThread, wLocal, wIf, wElse, wWhile, wPrint, wSkip, wSwap]; simp only [*, or_self, not_false_eq_true])
        ·
         intro hc4
         try simp only [dn] at hc4
         refine vc_seq (vc_region ?_)
         refine vc_y rfl rfl (y_eqs rfl rfl) ?_
         refine vc_y rfl rfl (y_as rfl) ?_
         refine vc_end (vq_then (vc_keep [(3, _), (4, _)] ⟨rfl, rfl, trivial⟩ ?_))
         refine vc_ifs rfl ?_ ?_
         ·
          intro hc4
          try simp only [dn] at hc4
          refine vc_code_skip (vq_then (vc_keep [(4, _)] ⟨rfl, trivial⟩ ?_))
          refine vc_ift rfl ?_
          refine vc_seq (vc_region ?_)
          refine vc_y rfl rfl (y_as rfl) ?_
          refine vc_end (vq_then (vc_keep [(2, _)] ⟨rfl, trivial⟩ (vc_ret (vq_block_ret (vq_then_ret ?_)))))
          refine vq_ret1 st (.inl rfl) results87 (.tmp rfl) ?_
          refine ⟨_, rfl, ?_⟩
          refine ⟨?_, rfl⟩
          rw [Value.bool.injEq]
          first
          | (symm; simp only [isWord, decide_eq_true_eq]; simp only [wShared, wLock, wThread, wLocal, wIf, wElse, wWhile, wPrint, wSkip, wSwap]; simp only [*, true_or, or_true]; done)
          | (symm; simp only [isWord, decide_eq_false_iff_not]; simp only [wShared, wLock, wThread, wLocal, wIf, wElse, wWhile, wPrint, wSkip, wSwap]; simp only [*, or_self, not_false_eq_true])
         ·
          intro hc4
          try simp only [dn] at hc4
          refine vc_region ?_
          refine vc_y rfl rfl (y_eqs rfl rfl) ?_
          refine vc_y rfl rfl (y_as rfl) ?_
          refine vc_end (vq_then (vc_keep [(4, _)] ⟨rfl, trivial⟩ ?_))
          refine vc_ifs rfl ?_ ?_
          ·
           intro hc4
           try simp only [dn] at hc4
           refine vc_seq (vc_region ?_)
           refine vc_y rfl rfl (y_as rfl) ?_
           refine vc_end (vq_then (vc_keep [(2, _)] ⟨rfl, trivial⟩ (vc_ret (vq_block_ret (vq_then_ret ?_)))))
           refine vq_ret1 st (.inl rfl) results87 (.tmp rfl) ?_
           refine ⟨_, rfl, ?_⟩
           refine ⟨?_, rfl⟩
           rw [Value.bool.injEq]
           first
           | (symm; simp only [isWord, decide_eq_true_eq]; simp only [wShared, wLock, wThread, wLocal, wIf, wElse, wWhile, wPrint, wSkip, wSwap]; simp only [*, true_or, or_true]; done)
           | (symm; simp only [isWord, decide_eq_false_iff_not]; simp only [wShared, wLock, wThread, wLocal, wIf, wElse, wWhile, wPrint, wSkip, wSwap]; simp only [*, or_self, not_false_eq_true])
          ·
           intro hc4
           try simp only [dn] at hc4
           refine vc_code_skip (vq_block (vq_then (vc_keep [] trivial (vc_seq (vc_region ?_)))))
           refine vc_y rfl rfl (y_as rfl) ?_
           refine vc_end (vq_then (vc_keep [(2, _)] ⟨rfl, trivial⟩ (vc_ret ?_)))
           refine vq_ret1 st (.inl rfl) results87 (.tmp rfl) ?_
           refine ⟨_, rfl, ?_⟩
           refine ⟨?_, rfl⟩
           rw [Value.bool.injEq]
           first
           | (symm; simp only [isWord, decide_eq_true_eq]; simp only [wShared, wLock, wThread, wLocal, wIf, wElse, wWhile, wPrint, wSkip, wSwap]; simp only [*, true_or, or_true]; done)
           | (symm; simp only [isWord, decide_eq_false_iff_not]; simp only [wShared, wLock, wThread, wLocal, wIf, wElse, wWhile, wPrint, wSkip, wSwap]; simp only [*, or_self, not_false_eq_true])

end Go.Proofs.YtnmhlpnapgojjaaDoor

/- The engine, fifth part: append. -/
namespace Sx
open Go Go.RowKit
set_option linter.unusedVariables false
set_option linter.unusedSimpArgs false

section
variable {w0 w w' : World} {M : List Nat} {hs : List Res}

theorem St.app (st : St w0 M hs w) {i e size n n' : Nat} {v v' : Value} {xs xs' : List Value} (hi : nth hs i = some (.own v e size n xs)) (hg : w.grownBy w' v.ownBlock)
    (hown : w'.ownsRow w0.heap.size e size v' n' xs') (hat : v'.ownBlock = v.ownBlock ∨ v'.ownBlock = some w.heap.size) :
    St w0 M (setNth hs i (.own v' e size n' xs')) w' :=
  st.swap hi (Chg.of_grownByO hg) (by simp [Res.at?]) (fun k hk => .inr ((World.ownsRow.lt (st.res hi) k (by simpa using hk)).1)) (fun k hk => by
    simp only [Res.at?] at hk ⊢
    rcases hat with h | h
    · rw [h] at hk; exact .inl hk
    · rw [h] at hk; simp at hk; exact .inr (by omega)) hown

/-- an owned slice that is nil comes to be -/
theorem St.ownNil (st : St w0 M hs w) (e size : Nat) : St w0 M (.own (.slice none 0 0) e size 0 [] :: hs) w :=
  st.pushR (Chg.refl _ _) (World.ownsRow_nil w _ e size) (by simp [Res.at?, Value.ownBlock])

theorem ownsRow_base {base base' e size n : Nat} {v : Value} {xs : List Value} (h : w.ownsRow base e size v n xs) (hb : base' ≤ base) : w.ownsRow base' e size v n xs :=
  ⟨h.1, h.2.imp id fun ⟨g, cap, cur, h1, h2, h3⟩ => ⟨g, cap, cur, h1, Nat.le_trans hb h2, h3⟩⟩

/-- a callee hands back a row of its own -/
theorem St.pushOwn (st : St w0 M hs w) (c : Chg [] w w') {v : Value} {e size n : Nat} {xs : List Value} (h : w'.ownsRow w.heap.size e size v n xs) : St w0 M (.own v e size n xs :: hs) w' :=
  st.pushR c (ownsRow_base h st.chg.size) (fun k hk => (World.ownsRow.lt h k (by simpa [Res.at?] using hk)).1)

theorem St.own_pop {v : Value} {e size n : Nat} {xs : List Value} {i : Nat} (st : St w0 M hs w) (h : nth hs i = some (.own v e size n xs)) : w.ownsRow w0.heap.size e size v n xs := st.res h

variable {P : Program} {n : Fr} {L : List Oper} {Q : Exit → Act → World → Prop} {kn : Kn} {N : Act → World → Prop}
variable {d ty : Nat} {pos : String} {aft : Array Edge} {g : Option (Nat × Bool)}

/-- append(v, x..): an owned slice, and a row of new cells that is held -/
theorem e_app (st : St w0 M hs w) (i j : Nat) {T E size bytes m len c b : Nat} {x y : Operand} {v z : Value} {xs l : List Value} {fz : Nat × Nat} {ti : TypeInfo} (hw : gd L kn g = some true) (hd : okDst n (some d) = true)
    (hx : evO kn x = some v) (hy : evO kn y = some (.slice (some ⟨b, 0, none⟩) m c)) (hi : nth hs i = some (.own v E size len xs)) (hj : nth hs j = some (.blk b (.cells l.toArray E fz)))
    (ht : P.underlying T = some (.slice E)) (hinfo : P.info? E = some ti) (hz : ti.zero = some z) (hsize : ti.size = size) (hby : ti.bytes = bytes) (hzs : z.cells.size = size) (hsz : Nat.blt 0 size = true)
    (hl : l.length = m * size) (h1 : allOne l = true) (hm : Nat.blt 0 m = true) (h63 : len + m ≤ maxLen) (hbytes : (len + m) * bytes ≤ 140737488355328)
    (next : ∀ oa cap w', St w0 M (setNth hs i (.own (.slice oa (len + m) cap) E size (len + m) (xs ++ l))) w' → vN n N ((d, .slice oa (len + m) cap) :: kn) w') :
    vS P n L Q ⟨some d, .call ⟨.builtin .append, #[x, y], #[T, T]⟩, ty, pos, aft, g⟩ N kn w := by
  have hb : w.heap[b]? = some (.cells l.toArray E fz) := st.res hj
  have hm' : 0 < m := by simpa [Nat.blt_eq] using hm
  obtain ⟨v', w', hr, hown, hg, hnil, hat⟩ := run_append_own_at (P := P) w w0.heap.size T ty E ti z size bytes ht hinfo hz hsize hby hzs (by simpa [Nat.blt_eq] using hsz) v len xs (st.res hi) ⟨b, 0, none⟩ m c l hl
    (fun k u hk => by rw [addr_add]; exact cell_blk hb (by rw [nth_eq]; simpa using hk)) (allOne_spec h1) h63 hbytes st.chg.size
  obtain ⟨oa, cap, rfl⟩ : ∃ oa cap, v' = .slice oa (len + m) cap := by
    rcases hown.2 with ⟨rfl, h0⟩ | ⟨g, cap, cur, rfl, _⟩
    · omega
    · exact ⟨_, _, rfl⟩
  refine e_bi [v, .slice (some ⟨b, 0, none⟩) m c] hw hd (by simp [hx, hy]) (w' := w') (fun cs => ?_) (next oa cap w' (st.app hi hg hown hat))
  simp only [builtin, Sem.run_bind, List.toArray, hr]
  rfl
end
end Sx

/- The engine, sixth part: loads from a row that is owned. -/
namespace Sx
open Go Go.RowKit
set_option linter.unusedVariables false
set_option linter.unusedSimpArgs false
section
variable {w0 w w' : World} {M : List Nat} {hs : List Res}
variable {P : Program} {n : Fr} {L : List Oper} {Q : Exit → Act → World → Prop} {kn : Kn} {N : Act → World → Prop}
variable {d ty : Nat} {pos : String} {aft : Array Edge} {g : Option (Nat × Bool)}

theorem own_cell {base e size len cap b off : Nat} {xs : List Value} {v : Value} (h : w.ownsRow base e size (.slice (some ⟨b, 0, none⟩) len cap) len xs) (hv : xs[off]? = some v) : w.cell? ⟨b, off, none⟩ = some v := by
  have hl : off < xs.length := (List.getElem?_eq_some_iff.1 hv).1
  rw [World.ownsRow.cellAt h off (by rw [← h.1]; exact hl), hv]

theorem y_ldo (st : St w0 M hs w) (i : Nat) {x : Operand} {T b off e size len cap : Nat} {xs : List Value} {v : Value} (hx : evO kn x = some (.pointer (some ⟨b, off, none⟩)))
  (ha : ∀ w, (Go.isAgg T).run P w = .ok false w) (hi : nth hs i = some (.own (.slice (some ⟨b, 0, none⟩) len cap) e size len xs)) (hv : xs[off]? = some v) : Y P n kn w ⟨some d, .load T x, ty, pos, aft, g⟩ v :=
  y_ldc hx ha (own_cell (st.res hi) hv)

theorem y_ldoa (st : St w0 M hs w) (i : Nat) {x : Operand} {T b off e size len cap sz : Nat} {xs : List Value} {vs : List Value} (hx : evO kn x = some (.pointer (some ⟨b, off, none⟩)))
  (ha : ∀ w, (Go.isAgg T).run P w = .ok true w) (hsz : ∀ w, (Go.sizeOf T).run P w = .ok sz w) (hi : nth hs i = some (.own (.slice (some ⟨b, 0, none⟩) len cap) e size len xs)) (hl : vs.length = sz)
  (hv : ∀ j v, vs[j]? = some v → xs[off + j]? = some v) : Y P n kn w ⟨some d, .load T x, ty, pos, aft, g⟩ (.agg vs.toArray) :=
  y_ldca vs hx ha hsz hl (fun j v hj => own_cell (st.res hi) (hv j v hj))

theorem own_form {base e size n : Nat} {v : Value} {xs : List Value} (h : w.ownsRow base e size v n xs) (hn : 0 < n) :
    ∃ g cap, v = .slice (some ⟨g, 0, none⟩) n cap ∧ base ≤ g := by
  rcases h.2 with ⟨_, h0⟩ | ⟨g, cap, cur, hv, hb, hg, _⟩
  · omega
  · exact ⟨g, cap, hv, hb⟩

end
end Sx

namespace Go.Proofs.YtnmhlpnapgojjaaDoor
open Go.RowKit Sx LexS _root_.Go.Proofs.Tryd
set_option linter.unusedVariables false
set_option linter.unusedSimpArgs false
theorem isName_eq {l : List UInt8} (h0 : l ≠ []) (h1 : l.length ≤ 32) (h2 : isDigit (l.getD 0 0) = false) (h3 : isWord l = false) : isName l = l.all isIdent := by
 match l, h0 with
 | c :: r, _ => simp at h2 h1; simp [isName, h2, h3, h1]
theorem isName_nil {l : List UInt8} (h : l = []) : isName l = false := by subst h; rfl
theorem isName_long {l : List UInt8} (h : 32 < l.length) : isName l = false := by
 match l, h with
 | c :: r, h => simp only [isName]; rw [show decide ((c :: r).length ≤ 32) = false from by simp only [decide_eq_false_iff_not]; omega]; simp
theorem isName_digit {l : List UInt8} (h : isDigit (l.getD 0 0) = true) : isName l = false := by
 match l with
 | [] => rfl
 | c :: r => simp at h; simp [isName, h]
theorem isName_word {l : List UInt8} (h : isWord l = true) : isName l = false := by
 match l with
 | [] => rfl
 | c :: r => simp [isName, h]
theorem all_take_succ {p : UInt8 → Bool} {l : List UInt8} {m : Nat} (hm : m < l.length) (h : (l.take m).all p = true) (hp : p (l.getD m 0) = true) : (l.take (m + 1)).all p = true := by
 rw [List.take_add_one]
 have : l[m]? = some (l.getD m 0) := by simp [List.getD, hm]
 rw [this]
 simp only [List.all_append, h, Option.toList_some, List.all_cons, hp, List.all_nil, Bool.and_self]
theorem all_no {p : UInt8 → Bool} {l : List UInt8} {m : Nat} (hm : m < l.length) (hp : p (l.getD m 0) = false) : l.all p = false := by
 rw [List.all_eq_false]
 refine ⟨l.getD m 0, ?_, by rw [hp]; simp⟩
 rw [show l.getD m 0 = l[m] from by simp [List.getD, hm]]
 exact List.getElem_mem hm
theorem isSign_ref {l : List UInt8} : isSign l = decide (l = [40] ∨ l = [41] ∨ l = [123] ∨ l = [125] ∨ l = [44] ∨ l = [59] ∨ l = [61] ∨ l = [43] ∨ l = [45] ∨ l = [42] ∨ l = [47] ∨ l = [37] ∨ l = [38] ∨ l = [124] ∨ l = [94] ∨ l = [33] ∨ l = [60] ∨ l = [62] ∨
    l = [61, 61] ∨ l = [33, 61] ∨ l = [60, 61] ∨ l = [62, 61] ∨ l = [60, 60] ∨ l = [62, 62]) := by
 match l with
 | [] => rfl
 | [c] => 
  have h2 : isSign2 [c] = false := by simp [isSign2]
  rw [Bool.eq_iff_iff]
  simp [isSign, h2, isSign1, signs1]
 | a :: b :: r =>
  have h1 : isSign1 (a :: b :: r) = false := rfl
  simp only [isSign, h1, Bool.or_false, isSign2]
  congr 1
  simp

set_option maxHeartbeats 1000000 in
theorem name_any (l : List UInt8) (w : World) : Ret Tryd.prog 36 [str l] w fun v w' => v = .bool (isName l) ∧ w' = w := by
 refine ret_of [_] func36 rfl ntmps36 rfl ?_
 have st := St.init w []
 refine vc_seq (vc_region ?_)
 refine vc_y rfl rfl (y_as rfl) ?_
 refine vc_end (vq_then (vc_keep [(0, _)] ⟨rfl, trivial⟩ (vc_seq (vc_seq (vc_region ?_)))))
 refine vc_y rfl rfl (y_mv rfl) ?_
 refine vc_y rfl rfl (y_eqs rfl rfl) ?_
 refine vc_e (e_mvb rfl rfl rfl ?_ ?_)
 ·
  intro hg6
  try simp only [dn] at hg6
  iterate 3 refine vc_e (e_skip rfl rfl ?_)
  refine vc_y rfl rfl (y_pickt rfl rfl) ?_
  refine vc_y rfl rfl (y_mv rfl) ?_
  iterate 3 refine vc_e (e_skip rfl rfl ?_)
  refine vc_y rfl rfl (y_pickt rfl rfl) ?_
  refine vc_y rfl rfl (y_mv rfl) ?_
  iterate 2 refine vc_e (e_skip rfl rfl ?_)
  refine vc_y rfl rfl (y_pickt rfl rfl) ?_
  refine vc_end (vq_then (vc_keep [(0, _), (19, _)] ⟨rfl, rfl, trivial⟩ ?_))
  refine vc_ift rfl ?_
  refine vc_seq (vc_region ?_)
  refine vc_y rfl rfl (y_as rfl) ?_
  refine vc_end (vq_then (vc_keep [(2, _)] ⟨rfl, trivial⟩ (vc_ret (vq_then_ret ?_))))
  refine vq_ret1 st (.inl rfl) results36 (.tmp rfl) ?_
  refine ⟨_, rfl, ?_⟩
  refine ⟨?_, rfl⟩
  rw [Value.bool.injEq]
  first
  | (symm; apply isName_nil; first | assumption | (apply List.eq_nil_of_length_eq_zero; omega))
  | (symm; apply isName_long; omega)
  | (symm; apply isName_digit; assumption)
  | (symm; apply isName_word; assumption)
  | (symm; rw [isName_eq (by first | assumption | (intro h; subst h; simp at *)) (by omega) (by assumption) (by assumption)]; exact all_no (m := m) (by omega) (by simp only [isIdent, *, Bool.or_true, Bool.true_or, Bool.or_self]))
  | (symm; rw [isName_eq (by first | assumption | (intro h; subst h; simp at *)) (by omega) (by assumption) (by assumption)]; rw [List.take_of_length_le (by omega)] at hall; exact hall)
 ·
  intro hg6
  try simp only [dn] at hg6
  refine vc_y rfl rfl (y_mv rfl) ?_
  refine vc_y rfl rfl (y_lens rfl underlying9) ?_
  refine vc_y rfl rfl (y_gtr rfl rfl) ?_
  refine vc_y rfl rfl (y_pickf rfl rfl) ?_
  refine vc_e (e_mvb rfl rfl rfl ?_ ?_)
  ·
   intro hg11
   try simp only [dn] at hg11
   iterate 3 refine vc_e (e_skip rfl rfl ?_)
   refine vc_y rfl rfl (y_pickt rfl rfl) ?_
   refine vc_y rfl rfl (y_mv rfl) ?_
   iterate 2 refine vc_e (e_skip rfl rfl ?_)
   refine vc_y rfl rfl (y_pickt rfl rfl) ?_
   refine vc_end (vq_then (vc_keep [(0, _), (19, _)] ⟨rfl, rfl, trivial⟩ ?_))
   refine vc_ift rfl ?_
   refine vc_seq (vc_region ?_)
   refine vc_y rfl rfl (y_as rfl) ?_
   refine vc_end (vq_then (vc_keep [(2, _)] ⟨rfl, trivial⟩ (vc_ret (vq_then_ret ?_))))
   refine vq_ret1 st (.inl rfl) results36 (.tmp rfl) ?_
   refine ⟨_, rfl, ?_⟩
   refine ⟨?_, rfl⟩
   rw [Value.bool.injEq]
   first
   | (symm; apply isName_nil; first | assumption | (apply List.eq_nil_of_length_eq_zero; omega))
   | (symm; apply isName_long; omega)
   | (symm; apply isName_digit; assumption)
   | (symm; apply isName_word; assumption)
   | (symm; rw [isName_eq (by first | assumption | (intro h; subst h; simp at *)) (by omega) (by assumption) (by assumption)]; exact all_no (m := m) (by omega) (by simp only [isIdent, *, Bool.or_true, Bool.true_or, Bool.or_self]))
   | (symm; rw [isName_eq (by first | assumption | (intro h; subst h; simp at *)) (by omega) (by assumption) (by assumption)]; rw [List.take_of_length_le (by omega)] at hall; exact hall)
  ·
   intro hg11
   try simp only [dn] at hg11
   refine vc_y rfl rfl (y_mv rfl) ?_
   refine vc_y rfl rfl (y_ixs (k := 0) rfl rfl underlying9 rfl (by (rcases l with _ | ⟨_, _⟩ <;> simp at * ))) ?_
   refine vc_e (e_call [_] rfl rfl call70 rfl (digit_any _ _) ?_)
   rintro _ w ⟨rfl, rfl⟩
   refine vc_y rfl rfl (y_pickf rfl rfl) ?_
   refine vc_e (e_mvb rfl rfl rfl ?_ ?_)
   ·
    intro hg16
    try simp only [dn] at hg16
    iterate 2 refine vc_e (e_skip rfl rfl ?_)
    refine vc_y rfl rfl (y_pickt rfl rfl) ?_
    refine vc_end (vq_then (vc_keep [(0, _), (19, _)] ⟨rfl, rfl, trivial⟩ ?_))
    refine vc_ift rfl ?_
    refine vc_seq (vc_region ?_)
    refine vc_y rfl rfl (y_as rfl) ?_
    refine vc_end (vq_then (vc_keep [(2, _)] ⟨rfl, trivial⟩ (vc_ret (vq_then_ret ?_))))
    refine vq_ret1 st (.inl rfl) results36 (.tmp rfl) ?_
    refine ⟨_, rfl, ?_⟩
    refine ⟨?_, rfl⟩
    rw [Value.bool.injEq]
    first
    | (symm; apply isName_nil; first | assumption | (apply List.eq_nil_of_length_eq_zero; omega))
    | (symm; apply isName_long; omega)
    | (symm; apply isName_digit; assumption)
    | (symm; apply isName_word; assumption)
    | (symm; rw [isName_eq (by first | assumption | (intro h; subst h; simp at *)) (by omega) (by assumption) (by assumption)]; exact all_no (m := m) (by omega) (by simp only [isIdent, *, Bool.or_true, Bool.true_or, Bool.or_self]))
    | (symm; rw [isName_eq (by first | assumption | (intro h; subst h; simp at *)) (by omega) (by assumption) (by assumption)]; rw [List.take_of_length_le (by omega)] at hall; exact hall)
   ·
    intro hg16
    try simp only [dn] at hg16
    refine vc_y rfl rfl (y_mv rfl) ?_
    refine vc_e (e_call [_] rfl rfl call71 rfl (word_any _ _) ?_)
    rintro _ w ⟨rfl, rfl⟩
    refine vc_y rfl rfl (y_pickf rfl rfl) ?_
    refine vc_end (vq_then (vc_keep [(0, _), (19, _)] ⟨rfl, rfl, trivial⟩ ?_))
    refine vc_ifs rfl ?_ ?_
    ·
     intro hc19
     try simp only [dn] at hc19
     refine vc_seq (vc_region ?_)
     refine vc_y rfl rfl (y_as rfl) ?_
     refine vc_end (vq_then (vc_keep [(2, _)] ⟨rfl, trivial⟩ (vc_ret (vq_then_ret ?_))))
     refine vq_ret1 st (.inl rfl) results36 (.tmp rfl) ?_
     refine ⟨_, rfl, ?_⟩
     refine ⟨?_, rfl⟩
     rw [Value.bool.injEq]
     first
     | (symm; apply isName_nil; first | assumption | (apply List.eq_nil_of_length_eq_zero; omega))
     | (symm; apply isName_long; omega)
     | (symm; apply isName_digit; assumption)
     | (symm; apply isName_word; assumption)
     | (symm; rw [isName_eq (by first | assumption | (intro h; subst h; simp at *)) (by omega) (by assumption) (by assumption)]; exact all_no (m := m) (by omega) (by simp only [isIdent, *, Bool.or_true, Bool.true_or, Bool.or_self]))
     | (symm; rw [isName_eq (by first | assumption | (intro h; subst h; simp at *)) (by omega) (by assumption) (by assumption)]; rw [List.take_of_length_le (by omega)] at hall; exact hall)
    ·
     intro hc19
     try simp only [dn] at hc19
     refine vc_code_skip (vq_then (vc_keep [(0, _)] ⟨rfl, trivial⟩ (vc_seq (vc_seq (vc_region ?_)))))
     refine vc_y rfl rfl (y_mv rfl) ?_
     refine vc_y rfl rfl (y_lens rfl underlying9) ?_
     refine vc_y rfl rfl (y_mv rfl) ?_
     refine vc_end (vq_then (vc_keep [(0, _), (21, _), (22, _)] ⟨rfl, rfl, rfl, trivial⟩ (vc_block ?_)))
     refine vc_loop (w0 := _) (M := _) (fun (m : Nat) => [(0, str l), (21, .int .i64 (l.length : Int)), (22, .int .i64 (m : Int))]) (fun _ => []) (fun m w' => m ≤ l.length ∧ (l.take m).all isIdent = true ∧ w' = w) (fun m => l.length - m) 0 ⟨rfl, rfl, rfl, trivial⟩ st ⟨by omega, by simp, rfl⟩ ?_
     rintro m w' ⟨hm, hall, rfl⟩ st
     refine vc_seq (vc_region ?_)
     refine vc_y rfl rfl (y_lss rfl rfl) ?_
     refine vc_end (vq_then (vc_keep [(0, _), (21, _), (22, _), (23, _)] ⟨rfl, rfl, rfl, rfl, trivial⟩ (vc_seq ?_)))
     refine vc_ifs rfl ?_ ?_
     ·
      intro hc23
      try simp only [dn] at hc23
      refine vc_code_skip (vq_then (vc_keep [(0, _), (21, _), (22, _)] ⟨rfl, rfl, rfl, trivial⟩ (vc_seq (vc_block (vc_seq (vc_region ?_))))))
      refine vc_y rfl rfl (y_mv rfl) ?_
      refine vc_y rfl rfl (y_as rfl) ?_
      refine vc_end (vq_then (vc_keep [(0, _), (3, _), (21, _), (22, _)] ⟨rfl, rfl, rfl, rfl, trivial⟩ (vc_seq (vc_region ?_))))
      iterate 2 refine vc_y rfl rfl (y_mv rfl) ?_
      refine vc_y rfl rfl (y_ixs (k := _) rfl rfl underlying9 rfl (by omega)) ?_
      refine vc_e (e_call [_] rfl rfl call72 rfl (letter_any _ _) ?_)
      rintro _ w ⟨rfl, rfl⟩
      refine vc_y rfl rfl (y_not rfl) ?_
      refine vc_e (e_mvb rfl rfl rfl ?_ ?_)
      ·
       intro hg30
       try simp only [dn] at hg30
       iterate 2 refine vc_y rfl rfl (y_mv rfl) ?_
       refine vc_y rfl rfl (y_ixs (k := _) rfl rfl underlying9 rfl (by omega)) ?_
       refine vc_e (e_call [_] rfl rfl call70 rfl (digit_any _ _) ?_)
       rintro _ w ⟨rfl, rfl⟩
       refine vc_y rfl rfl (y_not rfl) ?_
       refine vc_y rfl rfl (y_pickt rfl rfl) ?_
       refine vc_end (vq_then (vc_keep [(0, _), (21, _), (22, _), (36, _)] ⟨rfl, rfl, rfl, rfl, trivial⟩ ?_))
       refine vc_ifs rfl ?_ ?_
       ·
        intro hc36
        try simp only [dn] at hc36
        refine vc_seq (vc_region ?_)
        refine vc_y rfl rfl (y_as rfl) ?_
        refine vc_end (vq_then (vc_keep [(2, _)] ⟨rfl, trivial⟩ (vc_ret (vq_block_ret (vq_then_ret (vq_then_ret (vq_block_ret (vq_then_ret ?_))))))))
        refine vq_ret1 st (.inl rfl) results36 (.tmp rfl) ?_
        refine ⟨_, rfl, ?_⟩
        refine ⟨?_, rfl⟩
        rw [Value.bool.injEq]
        first
        | (symm; apply isName_nil; first | assumption | (apply List.eq_nil_of_length_eq_zero; omega))
        | (symm; apply isName_long; omega)
        | (symm; apply isName_digit; assumption)
        | (symm; apply isName_word; assumption)
        | (symm; rw [isName_eq (by first | assumption | (intro h; subst h; simp at *)) (by omega) (by assumption) (by assumption)]; exact all_no (m := m) (by omega) (by simp only [isIdent, *, Bool.or_true, Bool.true_or, Bool.or_self]))
        | (symm; rw [isName_eq (by first | assumption | (intro h; subst h; simp at *)) (by omega) (by assumption) (by assumption)]; rw [List.take_of_length_le (by omega)] at hall; exact hall)
       ·
        intro hc36
        try simp only [dn] at hc36
        refine vc_code_skip (vq_block (vq_then (vc_keep [(0, _), (21, _), (22, _)] ⟨rfl, rfl, rfl, trivial⟩ (vc_region ?_))))
        refine vc_y rfl rfl (y_add rfl rfl rfl (by omega) (by omega)) ?_
        refine vc_y rfl rfl (y_mv rfl) ?_
        refine vc_end ?_
        refine vq_again (m + 1) ⟨rfl, rfl, rfl, trivial⟩ st ?_ ?_
        ·
         exact ⟨by omega, all_take_succ (by omega) hall (by simp only [isIdent, *, Bool.or_true, Bool.true_or, Bool.or_self]), rfl⟩
        ·
         omega
      ·
       intro hg30
       try simp only [dn] at hg30
       iterate 5 refine vc_e (e_skip rfl rfl ?_)
       refine vc_y rfl rfl (y_pickf rfl rfl) ?_
       refine vc_end (vq_then (vc_keep [(0, _), (21, _), (22, _), (36, _)] ⟨rfl, rfl, rfl, rfl, trivial⟩ ?_))
       refine vc_iff rfl ?_
       refine vc_code_skip (vq_block (vq_then (vc_keep [(0, _), (21, _), (22, _)] ⟨rfl, rfl, rfl, trivial⟩ (vc_region ?_))))
       refine vc_y rfl rfl (y_add rfl rfl rfl (by omega) (by omega)) ?_
       refine vc_y rfl rfl (y_mv rfl) ?_
       refine vc_end ?_
       refine vq_again (m + 1) ⟨rfl, rfl, rfl, trivial⟩ st ?_ ?_
       ·
        exact ⟨by omega, all_take_succ (by omega) hall (by simp only [isIdent, *, Bool.or_true, Bool.true_or, Bool.or_self]), rfl⟩
       ·
        omega
     ·
      intro hc23
      try simp only [dn] at hc23
      refine vc_exit (vq_then_exit (vq_then_exit (vq_block_exit (vq_then (vc_keep [] trivial (vc_seq (vc_region ?_)))))))
      refine vc_y rfl rfl (y_as rfl) ?_
      refine vc_end (vq_then (vc_keep [(2, _)] ⟨rfl, trivial⟩ (vc_ret ?_)))
      refine vq_ret1 st (.inl rfl) results36 (.tmp rfl) ?_
      refine ⟨_, rfl, ?_⟩
      refine ⟨?_, rfl⟩
      rw [Value.bool.injEq]
      first
      | (symm; apply isName_nil; first | assumption | (apply List.eq_nil_of_length_eq_zero; omega))
      | (symm; apply isName_long; omega)
      | (symm; apply isName_digit; assumption)
      | (symm; apply isName_word; assumption)
      | (symm; rw [isName_eq (by first | assumption | (intro h; subst h; simp at *)) (by omega) (by assumption) (by assumption)]; exact all_no (m := m) (by omega) (by simp only [isIdent, *, Bool.or_true, Bool.true_or, Bool.or_self]))
      | (symm; rw [isName_eq (by first | assumption | (intro h; subst h; simp at *)) (by omega) (by assumption) (by assumption)]; rw [List.take_of_length_le (by omega)] at hall; exact hall)

set_option maxHeartbeats 1000000 in
theorem rname_any (l : List UInt8) (w : World) : Ret Tryd.prog 57 [str l] w fun v w' => v = .bool (isName l) ∧ w' = w := by
 refine ret_of [_] func57 rfl ntmps57 rfl ?_
 have st := St.init w []
 refine vc_seq (vc_region ?_)
 refine vc_y rfl rfl (y_as rfl) ?_
 refine vc_end (vq_then (vc_keep [(0, _)] ⟨rfl, trivial⟩ (vc_seq (vc_seq (vc_region ?_)))))
 refine vc_y rfl rfl (y_mv rfl) ?_
 refine vc_y rfl rfl (y_lens rfl underlying9) ?_
 refine vc_y rfl rfl (y_lss rfl rfl) ?_
 refine vc_e (e_mvb rfl rfl rfl ?_ ?_)
 ·
  intro hg7
  try simp only [dn] at hg7
  iterate 3 refine vc_e (e_skip rfl rfl ?_)
  refine vc_y rfl rfl (y_pickt rfl rfl) ?_
  refine vc_y rfl rfl (y_mv rfl) ?_
  iterate 3 refine vc_e (e_skip rfl rfl ?_)
  refine vc_y rfl rfl (y_pickt rfl rfl) ?_
  refine vc_y rfl rfl (y_mv rfl) ?_
  iterate 2 refine vc_e (e_skip rfl rfl ?_)
  refine vc_y rfl rfl (y_pickt rfl rfl) ?_
  refine vc_end (vq_then (vc_keep [(0, _), (20, _)] ⟨rfl, rfl, trivial⟩ ?_))
  refine vc_ift rfl ?_
  refine vc_seq (vc_region ?_)
  refine vc_y rfl rfl (y_as rfl) ?_
  refine vc_end (vq_then (vc_keep [(2, _)] ⟨rfl, trivial⟩ (vc_ret (vq_then_ret ?_))))
  refine vq_ret1 st (.inl rfl) results57 (.tmp rfl) ?_
  refine ⟨_, rfl, ?_⟩
  refine ⟨?_, rfl⟩
  rw [Value.bool.injEq]
  first
  | (symm; apply isName_nil; first | assumption | (apply List.eq_nil_of_length_eq_zero; omega))
  | (symm; apply isName_long; omega)
  | (symm; apply isName_digit; assumption)
  | (symm; apply isName_word; assumption)
  | (symm; rw [isName_eq (by first | assumption | (intro h; subst h; simp at *)) (by omega) (by assumption) (by assumption)]; exact all_no (m := m) (by omega) (by simp only [isIdent, *, Bool.or_true, Bool.true_or, Bool.or_self]))
  | (symm; rw [isName_eq (by first | assumption | (intro h; subst h; simp at *)) (by omega) (by assumption) (by assumption)]; rw [List.take_of_length_le (by omega)] at hall; exact hall)
 ·
  intro hg7
  try simp only [dn] at hg7
  refine vc_y rfl rfl (y_mv rfl) ?_
  refine vc_y rfl rfl (y_lens rfl underlying9) ?_
  refine vc_y rfl rfl (y_gtr rfl rfl) ?_
  refine vc_y rfl rfl (y_pickf rfl rfl) ?_
  refine vc_e (e_mvb rfl rfl rfl ?_ ?_)
  ·
   intro hg12
   try simp only [dn] at hg12
   iterate 3 refine vc_e (e_skip rfl rfl ?_)
   refine vc_y rfl rfl (y_pickt rfl rfl) ?_
   refine vc_y rfl rfl (y_mv rfl) ?_
   iterate 2 refine vc_e (e_skip rfl rfl ?_)
   refine vc_y rfl rfl (y_pickt rfl rfl) ?_
   refine vc_end (vq_then (vc_keep [(0, _), (20, _)] ⟨rfl, rfl, trivial⟩ ?_))
   refine vc_ift rfl ?_
   refine vc_seq (vc_region ?_)
   refine vc_y rfl rfl (y_as rfl) ?_
   refine vc_end (vq_then (vc_keep [(2, _)] ⟨rfl, trivial⟩ (vc_ret (vq_then_ret ?_))))
   refine vq_ret1 st (.inl rfl) results57 (.tmp rfl) ?_
   refine ⟨_, rfl, ?_⟩
   refine ⟨?_, rfl⟩
   rw [Value.bool.injEq]
   first
   | (symm; apply isName_nil; first | assumption | (apply List.eq_nil_of_length_eq_zero; omega))
   | (symm; apply isName_long; omega)
   | (symm; apply isName_digit; assumption)
   | (symm; apply isName_word; assumption)
   | (symm; rw [isName_eq (by first | assumption | (intro h; subst h; simp at *)) (by omega) (by assumption) (by assumption)]; exact all_no (m := m) (by omega) (by simp only [isIdent, *, Bool.or_true, Bool.true_or, Bool.or_self]))
   | (symm; rw [isName_eq (by first | assumption | (intro h; subst h; simp at *)) (by omega) (by assumption) (by assumption)]; rw [List.take_of_length_le (by omega)] at hall; exact hall)
  ·
   intro hg12
   try simp only [dn] at hg12
   refine vc_y rfl rfl (y_mv rfl) ?_
   refine vc_y rfl rfl (y_ixs (k := 0) rfl rfl underlying9 rfl (by omega)) ?_
   refine vc_e (e_call [_] rfl rfl call86 rfl (rdigit_any _ _) ?_)
   rintro _ w ⟨rfl, rfl⟩
   refine vc_y rfl rfl (y_pickf rfl rfl) ?_
   refine vc_e (e_mvb rfl rfl rfl ?_ ?_)
   ·
    intro hg17
    try simp only [dn] at hg17
    iterate 2 refine vc_e (e_skip rfl rfl ?_)
    refine vc_y rfl rfl (y_pickt rfl rfl) ?_
    refine vc_end (vq_then (vc_keep [(0, _), (20, _)] ⟨rfl, rfl, trivial⟩ ?_))
    refine vc_ift rfl ?_
    refine vc_seq (vc_region ?_)
    refine vc_y rfl rfl (y_as rfl) ?_
    refine vc_end (vq_then (vc_keep [(2, _)] ⟨rfl, trivial⟩ (vc_ret (vq_then_ret ?_))))
    refine vq_ret1 st (.inl rfl) results57 (.tmp rfl) ?_
    refine ⟨_, rfl, ?_⟩
    refine ⟨?_, rfl⟩
    rw [Value.bool.injEq]
    first
    | (symm; apply isName_nil; first | assumption | (apply List.eq_nil_of_length_eq_zero; omega))
    | (symm; apply isName_long; omega)
    | (symm; apply isName_digit; assumption)
    | (symm; apply isName_word; assumption)
    | (symm; rw [isName_eq (by first | assumption | (intro h; subst h; simp at *)) (by omega) (by assumption) (by assumption)]; exact all_no (m := m) (by omega) (by simp only [isIdent, *, Bool.or_true, Bool.true_or, Bool.or_self]))
    | (symm; rw [isName_eq (by first | assumption | (intro h; subst h; simp at *)) (by omega) (by assumption) (by assumption)]; rw [List.take_of_length_le (by omega)] at hall; exact hall)
   ·
    intro hg17
    try simp only [dn] at hg17
    refine vc_y rfl rfl (y_mv rfl) ?_
    refine vc_e (e_call [_] rfl rfl call87 rfl (rword_any _ _) ?_)
    rintro _ w ⟨rfl, rfl⟩
    refine vc_y rfl rfl (y_pickf rfl rfl) ?_
    refine vc_end (vq_then (vc_keep [(0, _), (20, _)] ⟨rfl, rfl, trivial⟩ ?_))
    refine vc_ifs rfl ?_ ?_
    ·
     intro hc20
     try simp only [dn] at hc20
     refine vc_seq (vc_region ?_)
     refine vc_y rfl rfl (y_as rfl) ?_
     refine vc_end (vq_then (vc_keep [(2, _)] ⟨rfl, trivial⟩ (vc_ret (vq_then_ret ?_))))
     refine vq_ret1 st (.inl rfl) results57 (.tmp rfl) ?_
     refine ⟨_, rfl, ?_⟩
     refine ⟨?_, rfl⟩
     rw [Value.bool.injEq]
     first
     | (symm; apply isName_nil; first | assumption | (apply List.eq_nil_of_length_eq_zero; omega))
     | (symm; apply isName_long; omega)
     | (symm; apply isName_digit; assumption)
     | (symm; apply isName_word; assumption)
     | (symm; rw [isName_eq (by first | assumption | (intro h; subst h; simp at *)) (by omega) (by assumption) (by assumption)]; exact all_no (m := m) (by omega) (by simp only [isIdent, *, Bool.or_true, Bool.true_or, Bool.or_self]))
     | (symm; rw [isName_eq (by first | assumption | (intro h; subst h; simp at *)) (by omega) (by assumption) (by assumption)]; rw [List.take_of_length_le (by omega)] at hall; exact hall)
    ·
     intro hc20
     try simp only [dn] at hc20
     refine vc_code_skip (vq_then (vc_keep [(0, _)] ⟨rfl, trivial⟩ (vc_seq (vc_seq (vc_region ?_)))))
     refine vc_y rfl rfl (y_as rfl) ?_
     refine vc_end (vq_then (vc_keep [(0, _), (3, _)] ⟨rfl, rfl, trivial⟩ (vc_block ?_)))
     refine vc_loop (w0 := _) (M := _) (fun (m : Nat) => [(0, str l), (3, .int .i64 (m : Int))]) (fun _ => []) (fun m w' => m ≤ l.length ∧ (l.take m).all isIdent = true ∧ w' = w) (fun m => l.length - m) 0 ⟨rfl, rfl, trivial⟩ st ⟨by omega, by simp, rfl⟩ ?_
     rintro m w' ⟨hm, hall, rfl⟩ st
     refine vc_seq (vc_seq (vc_region ?_))
     iterate 2 refine vc_y rfl rfl (y_mv rfl) ?_
     refine vc_y rfl rfl (y_lens rfl underlying9) ?_
     refine vc_y rfl rfl (y_lss rfl rfl) ?_
     refine vc_end (vq_then (vc_keep [(0, _), (3, _), (24, _)] ⟨rfl, rfl, rfl, trivial⟩ ?_))
     refine vc_ifs rfl ?_ ?_
     ·
      intro hc24
      try simp only [dn] at hc24
      refine vc_code_skip (vq_then (vc_keep [(0, _), (3, _)] ⟨rfl, rfl, trivial⟩ (vc_seq (vc_block (vc_seq (vc_region ?_))))))
      iterate 2 refine vc_y rfl rfl (y_mv rfl) ?_
      refine vc_y rfl rfl (y_ixs (k := _) rfl rfl underlying9 rfl (by omega)) ?_
      refine vc_e (e_call [_] rfl rfl call88 rfl (rletter_any _ _) ?_)
      rintro _ w ⟨rfl, rfl⟩
      refine vc_y rfl rfl (y_not rfl) ?_
      refine vc_e (e_mvb rfl rfl rfl ?_ ?_)
      ·
       intro hg32
       try simp only [dn] at hg32
       iterate 2 refine vc_y rfl rfl (y_mv rfl) ?_
       refine vc_y rfl rfl (y_ixs (k := _) rfl rfl underlying9 rfl (by omega)) ?_
       refine vc_e (e_call [_] rfl rfl call86 rfl (rdigit_any _ _) ?_)
       rintro _ w ⟨rfl, rfl⟩
       refine vc_y rfl rfl (y_not rfl) ?_
       refine vc_y rfl rfl (y_pickt rfl rfl) ?_
       refine vc_end (vq_then (vc_keep [(0, _), (3, _), (38, _)] ⟨rfl, rfl, rfl, trivial⟩ ?_))
       refine vc_ifs rfl ?_ ?_
       ·
        intro hc38
        try simp only [dn] at hc38
        refine vc_seq (vc_region ?_)
        refine vc_y rfl rfl (y_as rfl) ?_
        refine vc_end (vq_then (vc_keep [(2, _)] ⟨rfl, trivial⟩ (vc_ret (vq_block_ret (vq_then_ret (vq_then_ret (vq_block_ret (vq_then_ret ?_))))))))
        refine vq_ret1 st (.inl rfl) results57 (.tmp rfl) ?_
        refine ⟨_, rfl, ?_⟩
        refine ⟨?_, rfl⟩
        rw [Value.bool.injEq]
        first
        | (symm; apply isName_nil; first | assumption | (apply List.eq_nil_of_length_eq_zero; omega))
        | (symm; apply isName_long; omega)
        | (symm; apply isName_digit; assumption)
        | (symm; apply isName_word; assumption)
        | (symm; rw [isName_eq (by first | assumption | (intro h; subst h; simp at *)) (by omega) (by assumption) (by assumption)]; exact all_no (m := m) (by omega) (by simp only [isIdent, *, Bool.or_true, Bool.true_or, Bool.or_self]))
        | (symm; rw [isName_eq (by first | assumption | (intro h; subst h; simp at *)) (by omega) (by assumption) (by assumption)]; rw [List.take_of_length_le (by omega)] at hall; exact hall)
       ·
        intro hc38
        try simp only [dn] at hc38
        refine vc_code_skip (vq_block (vq_then (vc_keep [(0, _), (3, _)] ⟨rfl, rfl, trivial⟩ (vc_region ?_))))
        refine vc_y rfl rfl (y_mv rfl) ?_
        refine vc_y rfl rfl (y_add rfl rfl rfl (by omega) (by omega)) ?_
        refine vc_y rfl rfl (y_as rfl) ?_
        refine vc_end ?_
        refine vq_again (m + 1) ⟨rfl, rfl, trivial⟩ st ?_ ?_
        ·
         exact ⟨by omega, all_take_succ (by omega) hall (by simp only [isIdent, *, Bool.or_true, Bool.true_or, Bool.or_self]), rfl⟩
        ·
         omega
      ·
       intro hg32
       try simp only [dn] at hg32
       iterate 5 refine vc_e (e_skip rfl rfl ?_)
       refine vc_y rfl rfl (y_pickf rfl rfl) ?_
       refine vc_end (vq_then (vc_keep [(0, _), (3, _), (38, _)] ⟨rfl, rfl, rfl, trivial⟩ ?_))
       refine vc_iff rfl ?_
       refine vc_code_skip (vq_block (vq_then (vc_keep [(0, _), (3, _)] ⟨rfl, rfl, trivial⟩ (vc_region ?_))))
       refine vc_y rfl rfl (y_mv rfl) ?_
       refine vc_y rfl rfl (y_add rfl rfl rfl (by omega) (by omega)) ?_
       refine vc_y rfl rfl (y_as rfl) ?_
       refine vc_end ?_
       refine vq_again (m + 1) ⟨rfl, rfl, trivial⟩ st ?_ ?_
       ·
        exact ⟨by omega, all_take_succ (by omega) hall (by simp only [isIdent, *, Bool.or_true, Bool.true_or, Bool.or_self]), rfl⟩
       ·
        omega
     ·
      intro hc24
      try simp only [dn] at hc24
      refine vc_exit (vq_then_exit (vq_then_exit (vq_block_exit (vq_then (vc_keep [] trivial (vc_seq (vc_region ?_)))))))
      refine vc_y rfl rfl (y_as rfl) ?_
      refine vc_end (vq_then (vc_keep [(2, _)] ⟨rfl, trivial⟩ (vc_ret ?_)))
      refine vq_ret1 st (.inl rfl) results57 (.tmp rfl) ?_
      refine ⟨_, rfl, ?_⟩
      refine ⟨?_, rfl⟩
      rw [Value.bool.injEq]
      first
      | (symm; apply isName_nil; first | assumption | (apply List.eq_nil_of_length_eq_zero; omega))
      | (symm; apply isName_long; omega)
      | (symm; apply isName_digit; assumption)
      | (symm; apply isName_word; assumption)
      | (symm; rw [isName_eq (by first | assumption | (intro h; subst h; simp at *)) (by omega) (by assumption) (by assumption)]; exact all_no (m := m) (by omega) (by simp only [isIdent, *, Bool.or_true, Bool.true_or, Bool.or_self]))
      | (symm; rw [isName_eq (by first | assumption | (intro h; subst h; simp at *)) (by omega) (by assumption) (by assumption)]; rw [List.take_of_length_le (by omega)] at hall; exact hall)

def xText : List UInt8 := [120, 60, 60, 61, 49, 32, 47, 47, 32, 121, 10]
def aText : List UInt8 := [97, 32, 48, 49]
def whileText : List UInt8 := [119, 104, 105, 108, 101]
theorem scanRes_x : scanRes xText = ([⟨1, [120], 0, 0⟩, ⟨4, [60, 60], 0, 1⟩, ⟨4, [61], 0, 3⟩, ⟨3, [49], 1, 4⟩], 0, 0, 0) := by kernel_rfl
theorem scanRes_a : scanRes aText = ([], 20, 2, 3) := by kernel_rfl
theorem isWord_while : isWord whileText = true := by kernel_rfl
theorem isName_while : isName whileText = false := by kernel_rfl

end Go.Proofs.YtnmhlpnapgojjaaDoor

/- Blanks and remarks between tokens: no program in sight. -/
namespace LexS
set_option linter.unusedVariables false
set_option linter.unusedSimpArgs false

theorem blank_not {y : UInt8} (h : isBlank y = true) : isIdent y = false ∧ isDigit y = false ∧ isLetter y = false ∧ y ≠ 47 ∧ ∀ c, isSign2 [c, y] = false := by
  have hy : y.toNat = 32 ∨ y.toNat = 9 ∨ y.toNat = 10 ∨ y.toNat = 13 := by simpa [isBlank] using h
  have hl : isLetter y = false := by simp only [isLetter, decide_eq_false_iff_not]; omega
  have hd : isDigit y = false := by simp only [isDigit, decide_eq_false_iff_not]; omega
  refine ⟨by simp [isIdent, hl, hd], hd, hl, ?_, fun c => ?_⟩
  · rintro rfl; simp at hy
  · simp only [isSign2, decide_eq_false_iff_not, List.cons.injEq, and_true]
    rintro (⟨_, rfl⟩ | ⟨_, rfl⟩ | ⟨_, rfl⟩ | ⟨_, rfl⟩ | ⟨_, rfl⟩ | ⟨_, rfl⟩) <;> simp at hy

theorem tw_app {p : UInt8 → Bool} {y : UInt8} {Z : List UInt8} (hy : p y = false) : ∀ (q : List UInt8) (m : Nat), (q.takeWhile p).length ≤ m → (q.take m ++ y :: Z).takeWhile p = q.takeWhile p
  | [], m, _ => by simp [hy]
  | c :: q, m, h => by
    rw [List.takeWhile_cons] at h ⊢
    split at h
    · rename_i hc
      cases m with
      | zero => simp at h
      | succ m =>
        rw [List.take_succ_cons, List.cons_append, List.takeWhile_cons, if_pos hc, if_pos hc, tw_app hy q m (by simpa using h)]
    · rename_i hc
      rw [if_neg hc]
      cases m with
      | zero => simp [hy]
      | succ m => rw [List.take_succ_cons, List.cons_append, List.takeWhile_cons, if_neg hc]

/-- a token stays if a blank is put behind it -/
theorem tokAt_app {q : List UInt8} {i m : Nat} {t : Tok} {y : UInt8} {Z : List UInt8} (h : tokAt q i = .tok t) (hm : t.text.length ≤ m) (hy : isBlank y = true) : tokAt (q.take m ++ y :: Z) i = .tok t := by
  obtain ⟨b1, b2, b3, b4, b5⟩ := blank_not hy
  have hl := tok_len h
  match q, h with
  | [], h => simp [tokAt] at h
  | c :: r, h =>
    cases m with
    | zero => omega
    | succ m =>
      rw [List.take_succ_cons, List.cons_append]
      simp only [tokAt] at h ⊢
      have ei : ∀ p : UInt8 → Bool, p y = false → ((c :: r).takeWhile p).length ≤ m + 1 → (c :: (r.take m ++ y :: Z)).takeWhile p = (c :: r).takeWhile p := fun p hp hlen => by
        have := tw_app (Z := Z) hp (c :: r) (m + 1) hlen
        rwa [List.take_succ_cons, List.cons_append] at this
      split at h
      · rename_i hc
        simp only [hc, if_true]
        split at h
        · rename_i hw
          cases h
          rw [ei _ b1 hm, if_pos hw]
        · rename_i hw
          split at h
          · cases h
          · rename_i hlen
            cases h
            rw [ei _ b1 hm, if_neg hw, if_neg hlen]
      · rename_i hc
        simp only [hc, Bool.false_eq_true, if_false]
        split at h
        · rename_i hd
          simp only [hd, if_true]
          split at h
          · cases h
          · rename_i hn
            have hT : t.text = (c :: r).takeWhile isDigit := by
              split at h
              · split at h
                · cases h
                · cases h; rfl
              · cases h; rfl
            rw [hT] at hm
            rw [ei _ b2 hm, if_neg hn]
            have hpos : ∃ n, ((c :: r).takeWhile isDigit).length = n + 1 := by rw [List.takeWhile_cons, if_pos hd]; exact ⟨_, List.length_cons⟩
            obtain ⟨n, hn'⟩ := hpos
            rw [hn'] at h hm ⊢
            simp only [List.drop_succ_cons] at h ⊢
            have key : (r.take m ++ y :: Z).drop n = (r.drop n).take (m - n) ++ y :: Z := by
              rw [List.drop_append, List.drop_take]
              by_cases hnr : n ≤ (r.take m).length
              · rw [show n - (r.take m).length = 0 by omega, List.drop_zero]
              · exfalso
                have h1 : ((c :: r).takeWhile isDigit).length ≤ (c :: r).length := by
                  have h := List.takeWhile_append_dropWhile (p := isDigit) (l := c :: r)
                  have h2 := congrArg List.length h
                  simp only [List.length_append] at h2; omega
                simp at hnr h1
                omega
            rw [key]
            cases hdr : r.drop n with
            | nil => rw [hdr] at h; simp only [List.take_nil, List.nil_append, b3, Bool.false_eq_true, if_false]; exact h
            | cons d r' =>
              rw [hdr] at h
              cases hmn : m - n with
              | zero =>
                simp only [List.take_zero, List.nil_append, b3, Bool.false_eq_true, if_false]
                cases hdl : isLetter d with
                | true => simp [hdl] at h
                | false => simp only [hdl, Bool.false_eq_true, if_false] at h; exact h
              | succ k => rw [List.take_succ_cons, List.cons_append]; exact h
        · rename_i hd
          simp only [hd, Bool.false_eq_true, if_false]
          split at h
          · rename_i hs
            cases h
            have h2 : ((c :: r).take 2).length = 2 := by
              simp only [isSign2, decide_eq_true_eq] at hs
              rcases hs with h | h | h | h | h | h <;> rw [h] <;> rfl
            rw [h2] at hm
            cases m with
            | zero => omega
            | succ m =>
              match r, h2 with
              | [], h2 => simp at h2
              | b :: r, _ =>
                simp only [List.take_succ_cons, List.take_zero, List.cons_append] at hs ⊢
                simp only [hs, if_true]
          · rename_i hs
            have hs' : isSign2 ((c :: (r.take m ++ y :: Z)).take 2) = false := by
              cases m with
              | zero => simpa using b5 c
              | succ m =>
                match r with
                | [] => simpa using b5 c
                | b :: r => simpa using hs
            rw [if_neg (by rw [hs']; simp)]
            exact h

theorem toLf_app : ∀ (q : List UInt8) (m : Nat) (Z : List UInt8), toLf q < m → m ≤ q.length → toLf (q.take m ++ Z) = toLf q
  | [], m, Z, h, h' => by simp [toLf] at h h'; omega
  | c :: q, 0, Z, h, h' => by omega
  | c :: q, m + 1, Z, h, h' => by
    rw [List.take_succ_cons, List.cons_append]
    simp only [toLf] at h ⊢
    split
    · rfl
    · rename_i hc
      rw [if_neg hc] at h
      rw [toLf_app q m Z (by omega) (by simpa using h')]
theorem toLf_app2 (q Z : List UInt8) : toLf (q ++ 10 :: Z) = toLf q := by
  induction q with
  | nil => simp [toLf]
  | cons c q ih => rw [List.cons_append]; simp only [toLf, ih]
theorem toLf_lf {q : List UInt8} (h : toLf q < q.length) : ∃ r, q.drop (toLf q) = 10 :: r := by
  induction q with
  | nil => simp at h
  | cons c q ih =>
    simp only [toLf] at h ⊢
    split
    · rename_i hc; exact ⟨q, by rw [hc]; rfl⟩
    · rename_i hc
      rw [if_neg hc] at h
      simp at h
      rw [List.drop_succ_cons]
      exact ih h
theorem isRem_take {q : List UInt8} {m : Nat} (h : isRem q = true) (hm : 2 ≤ m) (Z : List UInt8) : isRem (q.take m ++ Z) = true := by
  match q, h with
  | [], h => simp [isRem] at h
  | [_], h => simp [isRem] at h
  | a :: b :: r, h =>
    obtain ⟨m, rfl⟩ : ∃ k, m = k + 2 := ⟨m - 2, by omega⟩
    exact h
theorem toLf_rem {q : List UInt8} (h : isRem q = true) : 2 ≤ toLf q := by
  match q, h with
  | [], h => simp [isRem] at h
  | [_], h => simp [isRem] at h
  | a :: b :: r, h =>
    simp [isRem] at h
    obtain ⟨rfl, rfl⟩ := h
    simp [toLf]
theorem lf_blank : isBlank 10 = true := by decide
theorem drop_take_app (q Z : List UInt8) {n m : Nat} (h : n ≤ m) (hm : m ≤ q.length) : (q.take m ++ Z).drop n = (q.drop n).take (m - n) ++ Z := by
  rw [List.drop_append, List.drop_take, List.length_take, show n - min m q.length = 0 by omega, List.drop_zero]

theorem skip_idem (q : List UInt8) : skip (q.drop (skip q)) = 0 := by
  have key : ∀ n (q : List UInt8), q.length = n → skip (q.drop (skip q)) = 0 := by
    intro n
    induction n using Nat.strongRecOn with
    | _ n ih =>
      intro q hq
      match q with
      | [] => rfl
      | c :: r =>
        cases hb : isBlank c with
        | true => rw [skip_blank hb, List.drop_succ_cons]; exact ih r.length (by simp at hq; omega) r rfl
        | false =>
          cases hr : isRem (c :: r) with
          | true =>
            have hp := toLf_pos hr
            rw [skip_rem hr, ← List.drop_drop]
            exact ih ((c :: r).drop (toLf (c :: r))).length (by simp only [List.length_drop, List.length_cons] at *; omega) _ rfl
          | false => rw [skip_other hb hr, List.drop_zero]; exact skip_other hb hr
  exact key _ q rfl

/-- what stands ahead of a token stays, if something is put in right behind the token's first byte or later -/
theorem skip_keep (q Z : List UInt8) (y : UInt8) (m : Nat) (hm : skip q < m) (hq : m ≤ q.length) (hy : isBlank y = true) : skip (q.take m ++ y :: Z) = skip q := by
  have key : ∀ n (q : List UInt8) (m : Nat), q.length = n → skip q < m → m ≤ q.length → skip (q.take m ++ y :: Z) = skip q := by
    intro n
    induction n using Nat.strongRecOn with
    | _ n ih =>
      intro q m hn hm hq
      match q with
      | [] => simp at hq; omega
      | c :: r =>
        obtain ⟨m, rfl⟩ : ∃ k, m = k + 1 := ⟨m - 1, by omega⟩
        cases hb : isBlank c with
        | true =>
          rw [skip_blank hb] at hm ⊢
          rw [List.take_succ_cons, List.cons_append, skip_blank hb, ih r.length (by simp at hn; omega) r m rfl (by omega) (by simpa using hq)]
        | false =>
          cases hr : isRem (c :: r) with
          | true =>
            have hp := toLf_rem hr
            have e := skip_rem hr
            have hr' := isRem_take hr (show 2 ≤ m + 1 by omega) (y :: Z)
            rw [skip_rem hr', toLf_app _ _ _ (by omega) hq, drop_take_app _ _ (by omega) hq, e]
            rw [ih ((c :: r).drop (toLf (c :: r))).length (by simp only [List.length_drop, List.length_cons] at *; omega) _ _ rfl (by omega) (by simp only [List.length_drop]; omega)]
          | false =>
            rw [skip_other hb hr, List.take_succ_cons, List.cons_append]
            apply skip_other hb
            match r, m with
            | [], _ => simp only [isRem, decide_eq_false_iff_not, List.take_nil, List.nil_append]; rintro ⟨_, h⟩; exact (blank_not hy).2.2.2.1 h
            | b :: r, 0 => simp only [isRem, decide_eq_false_iff_not, List.take_zero, List.nil_append]; rintro ⟨_, h⟩; exact (blank_not hy).2.2.2.1 h
            | b :: r, m + 1 => exact hr
  exact key _ q m rfl hm hq

/-- what stands ahead of a token, and something more -/
theorem skip_more (q Z : List UInt8) (h : skip q < q.length) : skip (q.take (skip q) ++ Z) = skip q + skip Z := by
  have key : ∀ n (q : List UInt8), q.length = n → skip q < q.length → skip (q.take (skip q) ++ Z) = skip q + skip Z := by
    intro n
    induction n using Nat.strongRecOn with
    | _ n ih =>
      intro q hn h
      match q with
      | [] => simp at h
      | c :: r =>
        cases hb : isBlank c with
        | true =>
          rw [skip_blank hb] at h ⊢
          rw [List.take_succ_cons, List.cons_append, skip_blank hb, ih r.length (by simp at hn; omega) r rfl (by simpa using h)]
          omega
        | false =>
          cases hr : isRem (c :: r) with
          | true =>
            have hp := toLf_rem hr
            have e := skip_rem hr
            obtain ⟨r', hlf⟩ := toLf_lf (q := c :: r) (by omega)
            have hs1 : 1 ≤ skip ((c :: r).drop (toLf (c :: r))) := by rw [hlf, skip_blank lf_blank]; omega
            have hr' := isRem_take hr (show 2 ≤ skip (c :: r) by omega) Z
            rw [skip_rem hr', toLf_app _ _ _ (by omega) (by omega), drop_take_app _ _ (by omega) (by omega)]
            rw [show skip (c :: r) - toLf (c :: r) = skip ((c :: r).drop (toLf (c :: r))) by omega]
            rw [ih ((c :: r).drop (toLf (c :: r))).length (by simp only [List.length_drop, List.length_cons] at *; omega) _ rfl (by simp only [List.length_drop]; omega)]
            omega
          | false => rw [skip_other hb hr]; simp
  exact key _ q rfl h

/-- nothing but blanks and remarks, then a line's end -/
theorem skip_line (q Z : List UInt8) (h : q.length ≤ skip q) : skip (q ++ 10 :: Z) = q.length + skip (10 :: Z) := by
  have key : ∀ n (q : List UInt8), q.length = n → q.length ≤ skip q → skip (q ++ 10 :: Z) = q.length + skip (10 :: Z) := by
    intro n
    induction n using Nat.strongRecOn with
    | _ n ih =>
      intro q hn h
      match q with
      | [] => simp
      | c :: r =>
        cases hb : isBlank c with
        | true =>
          rw [skip_blank hb] at h
          rw [List.cons_append, skip_blank hb, ih r.length (by simp at hn; omega) r rfl (by simpa using h)]
          simp; omega
        | false =>
          cases hr : isRem (c :: r) with
          | true =>
            have hp := toLf_rem hr
            have hle := toLf_le (c :: r)
            have e := skip_rem hr
            have hr' : isRem ((c :: r) ++ 10 :: Z) = true := by
              have := isRem_take hr (m := (c :: r).length) (by omega) (10 :: Z)
              rwa [List.take_length] at this
            rw [skip_rem hr', toLf_app2, List.drop_append, show toLf (c :: r) - (c :: r).length = 0 by omega, List.drop_zero]
            rw [ih ((c :: r).drop (toLf (c :: r))).length (by simp only [List.length_drop, List.length_cons] at *; omega) _ rfl (by simp only [List.length_drop]; omega)]
            simp only [List.length_drop]; omega
          | false => rw [skip_other hb hr] at h; simp at h
  exact key _ q rfl h

/-- a token elsewhere -/
def moved (d : Nat) (t : Tok) : Tok := ⟨t.kind, t.text, t.word, d⟩
theorem tokAt_move {q : List UInt8} {i : Nat} {t : Tok} (h : tokAt q i = .tok t) (j : Nat) : tokAt q j = .tok (moved j t) := by
  simp only [tokAt] at h ⊢
  repeat' split at h
  all_goals (first | (cases h; done) | (simp only [*, if_true, if_false, Bool.false_eq_true]; cases h; first | rfl | (simp [moved, *]; done)))
end LexS

/- Tokens, their places left out: no program in sight. -/
namespace LexS
set_option linter.unusedVariables false
set_option linter.unusedSimpArgs false
theorem scan_inv {r : List UInt8} {i : Nat} {t : Tok} {T : List Tok} {f : Option (Nat × Nat)} (h : scanA r i = (t :: T, f)) :
    skip r < r.length ∧ tokAt (r.drop (skip r)) (i + skip r) = .tok t ∧ scanA (r.drop (skip r + t.text.length)) (i + skip r + t.text.length) = (T, f) := by
  rcases Nat.lt_or_ge (skip r) r.length with hk | hk
  · cases hx : tokAt (r.drop (skip r)) (i + skip r) with
    | bad rule q => rw [scanA_bad hk hx] at h; simp at h
    | tok x =>
      rw [scanA_tok hk hx] at h
      simp only [Prod.mk.injEq, List.cons.injEq] at h
      obtain ⟨⟨rfl, h1⟩, h2⟩ := h
      exact ⟨hk, rfl, Prod.ext h1 h2⟩
  · rw [scanA_end hk] at h; simp at h
theorem scan_nil_inv {r : List UInt8} {i : Nat} (h : scanA r i = ([], none)) : r.length ≤ skip r := by
  rcases Nat.lt_or_ge (skip r) r.length with hk | hk
  · cases hx : tokAt (r.drop (skip r)) (i + skip r) with
    | bad rule q => rw [scanA_bad hk hx] at h; simp at h
    | tok x => rw [scanA_tok hk hx] at h; simp at h
  · exact hk
/-- one token behind another, places left out -/
def SameN (A B : List Tok) : Prop := A.map (fun t => (t.kind, t.text, t.word)) = B.map (fun t => (t.kind, t.text, t.word))
theorem SameN.cons {A B : List Tok} (h : SameN A B) (t : Tok) (d : Nat) : SameN (t :: A) (moved d t :: B) := by
  unfold SameN at *; simp only [List.map_cons, h]; rfl
theorem scan_move : ∀ (T : List Tok) (r : List UInt8) (i j : Nat), scanA r i = (T, none) → ∃ T', scanA r j = (T', none) ∧ SameN T T'
  | [], r, i, j, h => ⟨[], scanA_end (scan_nil_inv h), rfl⟩
  | t :: T, r, i, j, h => by
    obtain ⟨h1, h2, h3⟩ := scan_inv h
    obtain ⟨T', h4, h5⟩ := scan_move T _ _ (j + skip r + t.text.length) h3
    refine ⟨moved (j + skip r) t :: T', ?_, h5.cons t _⟩
    rw [scanA_tok h1 (tokAt_move h2 _)]
    show (_ :: (scanA (r.drop (skip r + t.text.length)) (j + skip r + t.text.length)).1, _) = _
    rw [h4]
    show (_, (scanA (r.drop (skip r + t.text.length)) (j + skip r + t.text.length)).2) = _
    rw [h4]
theorem scan_at : ∀ (T : List Tok) (r : List UInt8) (i : Nat), scanA r i = (T, none) → ∀ t ∈ T, i ≤ t.at_ ∧ t.at_ + t.text.length ≤ i + r.length
  | [], r, i, h => by simp
  | t :: T, r, i, h => by
    obtain ⟨h1, h2, h3⟩ := scan_inv h
    obtain ⟨h4, h5, h6⟩ := tok_len h2
    have hl := congrArg List.length h5
    simp at hl
    intro u hu
    rcases List.mem_cons.1 hu with rfl | hu
    · omega
    · have := scan_at T _ _ h3 u hu
      simp at this
      omega
/-- something blank is put in between two tokens, or behind the last one -/
theorem scan_blanks (M : List UInt8) (y : UInt8) (M' : List UInt8) (hM : M = y :: M') (hy : isBlank y = true) (hsk : ∀ Z, skip (M ++ Z) = M.length + skip Z) :
    ∀ (k : Nat) (T : List Tok) (r : List UInt8) (i c : Nat), scanA r i = (T, none) → k ≤ T.length → (∀ t, T[k]? = some t → i + c = t.at_) → (k = T.length → c = r.length ∧ ∃ M'', M = 10 :: M'') →
      ∃ T', scanA (r.take c ++ (M ++ r.drop c)) i = (T', none) ∧ SameN T T'
  | 0, [], r, i, c, h, hk, h1, h2 => by
    obtain ⟨rfl, M'', hM''⟩ := h2 rfl
    have hr := scan_nil_inv h
    refine ⟨[], scanA_end ?_, rfl⟩
    have hs := skip_line r (M'' ++ []) hr
    have h3 := hsk []
    rw [hM'', List.cons_append] at h3
    rw [List.take_length, List.drop_length, hM'', List.cons_append, hs, h3]
    simp
  | 0, t :: T, r, i, c, h, hk, h1, h2 => by
    obtain ⟨a1, a2, a3⟩ := scan_inv h
    have hat := (tok_len a2).2.2
    have hc := h1 t rfl
    obtain rfl : c = skip r := by omega
    have e1 : skip (r.take (skip r) ++ (M ++ r.drop (skip r))) = skip r + M.length := by rw [skip_more r _ a1, hsk, skip_idem]; rfl
    have e2 : (r.take (skip r) ++ (M ++ r.drop (skip r))).drop (skip r + M.length) = r.drop (skip r) := by
      rw [← List.append_assoc, List.drop_append, List.drop_eq_nil_of_le (by simp; omega), List.nil_append]
      rw [show skip r + M.length - (r.take (skip r) ++ M).length = 0 by simp; omega, List.drop_zero]
    have e3 : skip (r.take (skip r) ++ (M ++ r.drop (skip r))) < (r.take (skip r) ++ (M ++ r.drop (skip r))).length := by rw [e1]; simp; omega
    obtain ⟨T', h4, h5⟩ := scan_move T _ _ (i + (skip r + M.length) + t.text.length) a3
    refine ⟨moved (i + (skip r + M.length)) t :: T', ?_, h5.cons t _⟩
    have ht : tokAt ((r.take (skip r) ++ (M ++ r.drop (skip r))).drop (skip (r.take (skip r) ++ (M ++ r.drop (skip r))))) (i + skip (r.take (skip r) ++ (M ++ r.drop (skip r)))) = .tok (moved (i + (skip r + M.length)) t) := by
      rw [e1, e2]; exact tokAt_move a2 _
    rw [scanA_tok e3 ht, e1]
    show (_ :: (scanA ((r.take (skip r) ++ (M ++ r.drop (skip r))).drop (skip r + M.length + t.text.length)) _).1, (scanA ((r.take (skip r) ++ (M ++ r.drop (skip r))).drop (skip r + M.length + t.text.length)) _).2) = _
    rw [← List.drop_drop, e2, List.drop_drop]
    show (_ :: (scanA _ (i + (skip r + M.length) + t.text.length)).1, (scanA _ (i + (skip r + M.length) + t.text.length)).2) = _
    rw [h4]
  | k + 1, [], r, i, c, h, hk, h1, h2 => by simp at hk
  | k + 1, t :: T, r, i, c, h, hk, h1, h2 => by
    obtain ⟨a1, a2, a3⟩ := scan_inv h
    obtain ⟨b1, b2, b3⟩ := tok_len a2
    have hl := congrArg List.length b2
    simp at hl
    have hc : skip r + t.text.length ≤ c ∧ c ≤ r.length := by
      rcases Nat.lt_or_ge k T.length with hkt | hkt
      · have e := h1 (T[k]) (by simp [hkt])
        have := scan_at T _ _ a3 (T[k]) (List.getElem_mem hkt)
        simp at this
        omega
      · have := (h2 (by simp at hk ⊢; omega)).1
        omega
    subst hM
    have e1 : skip (r.take c ++ (y :: M' ++ r.drop c)) = skip r := by rw [List.cons_append]; exact skip_keep r _ y c (by omega) hc.2 hy
    have e2 : ∀ n, n ≤ c → (r.take c ++ (y :: M' ++ r.drop c)).drop n = (r.drop n).take (c - n) ++ (y :: M' ++ (r.drop n).drop (c - n)) := fun n hn => by
      rw [drop_take_app _ _ hn hc.2, List.drop_drop, show n + (c - n) = c by omega]
    have e3 : skip (r.take c ++ (y :: M' ++ r.drop c)) < (r.take c ++ (y :: M' ++ r.drop c)).length := by rw [e1]; simp; omega
    have ht : tokAt ((r.take c ++ (y :: M' ++ r.drop c)).drop (skip (r.take c ++ (y :: M' ++ r.drop c)))) (i + skip (r.take c ++ (y :: M' ++ r.drop c))) = .tok t := by
      rw [e1, e2 _ (by omega)]
      exact tokAt_app a2 (by omega) hy
    obtain ⟨T', h4, h5⟩ := scan_blanks (y :: M') y M' rfl hy hsk k T _ _ (c - (skip r + t.text.length)) a3 (by simpa using hk) (fun u hu => by
        have := h1 u (by simpa using hu); omega) (fun e => by
        have := h2 (by simp; omega)
        exact ⟨by simp; omega, this.2⟩)
    refine ⟨t :: T', ?_, ?_⟩
    · rw [scanA_tok e3 ht, e1, e2 _ (by omega), h4]
    · unfold SameN at *; simp only [List.map_cons, h5]
theorem toLf_no : ∀ (q Z : List UInt8), (∀ c ∈ q, c ≠ 10) → toLf (q ++ 10 :: Z) = q.length
  | [], Z, h => by simp [toLf]
  | c :: q, Z, h => by
    rw [List.cons_append]
    simp only [toLf]
    rw [if_neg (h c (.head _)), toLf_no q Z (fun d hd => h d (.tail _ hd))]
    rfl
/-- the blanks and the remark -/
def someBlanks (rem : List UInt8) : List UInt8 := [32, 9, 13, 47, 47] ++ rem ++ [10]
theorem skip_someBlanks (rem : List UInt8) (h : ∀ c ∈ rem, c ≠ 10) (Z : List UInt8) : skip (someBlanks rem ++ Z) = (someBlanks rem).length + skip Z := by
  have e : someBlanks rem ++ Z = 32 :: 9 :: 13 :: ((47 :: 47 :: rem) ++ 10 :: Z) := by simp [someBlanks]
  have hr : isRem ((47 :: 47 :: rem) ++ 10 :: Z) = true := rfl
  have hno : ∀ c ∈ 47 :: 47 :: rem, c ≠ 10 := by
    intro c hc
    simp only [List.mem_cons] at hc
    rcases hc with rfl | rfl | hc
    · decide
    · decide
    · exact h c hc
  rw [e, skip_blank (by decide), skip_blank (by decide), skip_blank (by decide), skip_rem hr, toLf_no (47 :: 47 :: rem) Z hno]
  rw [List.drop_append, List.drop_length, Nat.sub_self, List.drop_zero, List.nil_append, skip_blank lf_blank]
  simp [someBlanks]; omega
end LexS
