/- A part of the proof: contracts of functions and plain laws; each theorem says its own conditions. -/
import Derived.Test.YtggnfanphcaamaaGreatDoorK13
import Derived.Test.YtggnfanphcaamaaGreatDoorK0
namespace Go.Proofs.YtggnfanphcaamaaGreatDoor
open Go.RowKit Sx LexS _root_.Go.Proofs.Tryz
set_option linter.unusedVariables false
set_option linter.unusedSimpArgs false
theorem all_take_succ {p : UInt8 → Bool} {l : List UInt8} {m : Nat} (hm : m < l.length) (h : (l.take m).all p = true) (hp : p (l.getD m 0) = true) : (l.take (m + 1)).all p = true := by
 rw [List.take_add_one]
 have : l[m]? = some (l.getD m 0) := by simp [List.getD, hm]
 rw [this]
 simp only [List.all_append, h, Option.toList_some, List.all_cons, hp, List.all_nil, Bool.and_self]
theorem all_no {p : UInt8 → Bool} {l : List UInt8} {m : Nat} (hm : m < l.length) (hp : p (l.getD m 0) = false) : l.all p = false := by
 rw [List.all_eq_false]
 refine ⟨l.getD m 0, ?_, by rw [hp]; simp⟩
 rw [show l.getD m 0 = l[m] from by simp [List.getD, hm]]
 exact List.getElem_mem hm
theorem isSign_ref {l : List UInt8} : isSign l = decide (l = [40] ∨ l = [41] ∨ l = [123] ∨ l = [125] ∨ l = [44] ∨ l = [59] ∨ l = [61] ∨ l = [43] ∨ l = [45] ∨ l = [42] ∨ l = [47] ∨ l = [37] ∨ l = [38] ∨ l = [124] ∨ l = [94] ∨ l = [33] ∨ l = [60] ∨ l = [62] ∨
    l = [61, 61] ∨ l = [33, 61] ∨ l = [60, 61] ∨ l = [62, 61] ∨ l = [60, 60] ∨ l = [62, 62]) := by
 match l with
 | [] => rfl
 | [c] => 
  have h2 : isSign2 [c] = false := by simp [isSign2]
  rw [Bool.eq_iff_iff]
  simp [isSign, h2, isSign1, signs1]
 | a :: b :: r =>
  have h1 : isSign1 (a :: b :: r) = false := rfl
  simp only [isSign, h1, Bool.or_false, isSign2]
  congr 1
  simp

set_option maxHeartbeats 2000000 in
theorem rsign_any (l : List UInt8) (w : World) : Ret Tryz.prog 79 [str l] w fun v w' => v = .bool (isSign l) ∧ w' = w := by
 refine ret_of [_] func79 rfl ntmps79 rfl ?_
 have st := St.init w []
 refine vc_seq (vc_region ?_)
 refine vc_y rfl rfl (y_as rfl) ?_
 refine vc_end (vq_then (vc_keep [(0, _)] ⟨rfl, trivial⟩ (vc_seq (vc_seq (vc_region ?_)))))
 refine vc_y rfl rfl (y_mv rfl) ?_
 refine vc_end (vq_then (vc_keep [(3, _)] ⟨rfl, trivial⟩ (vc_block (vc_seq (vc_seq (vc_region ?_))))))
 refine vc_y rfl rfl (y_eqs rfl rfl) ?_
 refine vc_y rfl rfl (y_as rfl) ?_
 refine vc_end (vq_then (vc_keep [(3, _), (4, _)] ⟨rfl, rfl, trivial⟩ ?_))
 refine vc_ifs rfl ?_ ?_
 ·
  intro hc4
  try simp only [dn] at hc4
  refine vc_code_skip (vq_then (vc_keep [(4, _)] ⟨rfl, trivial⟩ ?_))
  refine vc_ift rfl ?_
  refine vc_seq (vc_region ?_)
  refine vc_y rfl rfl (y_as rfl) ?_
  refine vc_end (vq_then (vc_keep [(2, _)] ⟨rfl, trivial⟩ (vc_ret (vq_block_ret (vq_then_ret ?_)))))
  refine vq_ret1 st (.inl rfl) results79 (.tmp rfl) ?_
  refine ⟨_, rfl, ?_⟩
  refine ⟨?_, rfl⟩
  rw [Value.bool.injEq, isSign_ref]
  first
  | (symm; simp only [decide_eq_true_eq]; simp only [*, true_or, or_true]; done)
  | (symm; simp only [decide_eq_false_iff_not]; simp only [*, or_self, not_false_eq_true])
 ·
  intro hc4
  try simp only [dn] at hc4
  refine vc_seq (vc_region ?_)
  refine vc_y rfl rfl (y_eqs rfl rfl) ?_
  refine vc_y rfl rfl (y_as rfl) ?_
  refine vc_end (vq_then (vc_keep [(3, _), (4, _)] ⟨rfl, rfl, trivial⟩ ?_))
  refine vc_ifs rfl ?_ ?_
  ·
   intro hc4
   try simp only [dn] at hc4
   refine vc_code_skip (vq_then (vc_keep [(4, _)] ⟨rfl, trivial⟩ ?_))
   refine vc_ift rfl ?_
   refine vc_seq (vc_region ?_)
   refine vc_y rfl rfl (y_as rfl) ?_
   refine vc_end (vq_then (vc_keep [(2, _)] ⟨rfl, trivial⟩ (vc_ret (vq_block_ret (vq_then_ret ?_)))))
   refine vq_ret1 st (.inl rfl) results79 (.tmp rfl) ?_
   refine ⟨_, rfl, ?_⟩
   refine ⟨?_, rfl⟩
   rw [Value.bool.injEq, isSign_ref]
   first
   | (symm; simp only [decide_eq_true_eq]; simp only [*, true_or, or_true]; done)
   | (symm; simp only [decide_eq_false_iff_not]; simp only [*, or_self, not_false_eq_true])
  ·
   intro hc4
   try simp only [dn] at hc4
   refine vc_seq (vc_region ?_)
   refine vc_y rfl rfl (y_eqs rfl rfl) ?_
   refine vc_y rfl rfl (y_as rfl) ?_
   refine vc_end (vq_then (vc_keep [(3, _), (4, _)] ⟨rfl, rfl, trivial⟩ ?_))
   refine vc_ifs rfl ?_ ?_
   ·
    intro hc4
    try simp only [dn] at hc4
    refine vc_code_skip (vq_then (vc_keep [(4, _)] ⟨rfl, trivial⟩ ?_))
    refine vc_ift rfl ?_
    refine vc_seq (vc_region ?_)
    refine vc_y rfl rfl (y_as rfl) ?_
    refine vc_end (vq_then (vc_keep [(2, _)] ⟨rfl, trivial⟩ (vc_ret (vq_block_ret (vq_then_ret ?_)))))
    refine vq_ret1 st (.inl rfl) results79 (.tmp rfl) ?_
    refine ⟨_, rfl, ?_⟩
    refine ⟨?_, rfl⟩
    rw [Value.bool.injEq, isSign_ref]
    first
    | (symm; simp only [decide_eq_true_eq]; simp only [*, true_or, or_true]; done)
    | (symm; simp only [decide_eq_false_iff_not]; simp only [*, or_self, not_false_eq_true])
   ·
    intro hc4
    try simp only [dn] at hc4
    refine vc_seq (vc_region ?_)
    refine vc_y rfl rfl (y_eqs rfl rfl) ?_
    refine vc_y rfl rfl (y_as rfl) ?_
    refine vc_end (vq_then (vc_keep [(3, _), (4, _)] ⟨rfl, rfl, trivial⟩ ?_))
    refine vc_ifs rfl ?_ ?_
    ·
     intro hc4
     try simp only [dn] at hc4
     refine vc_code_skip (vq_then (vc_keep [(4, _)] ⟨rfl, trivial⟩ ?_))
     refine vc_ift rfl ?_
     refine vc_seq (vc_region ?_)
     refine vc_y rfl rfl (y_as rfl) ?_
     refine vc_end (vq_then (vc_keep [(2, _)] ⟨rfl, trivial⟩ (vc_ret (vq_block_ret (vq_then_ret ?_)))))
     refine vq_ret1 st (.inl rfl) results79 (.tmp rfl) ?_
     refine ⟨_, rfl, ?_⟩
     refine ⟨?_, rfl⟩
     rw [Value.bool.injEq, isSign_ref]
     first
     | (symm; simp only [decide_eq_true_eq]; simp only [*, true_or, or_true]; done)
     | (symm; simp only [decide_eq_false_iff_not]; simp only [*, or_self, not_false_eq_true])
    ·
     intro hc4
     try simp only [dn] at hc4
     refine vc_seq (vc_region ?_)
     refine vc_y rfl rfl (y_eqs rfl rfl) ?_
     refine vc_y rfl rfl (y_as rfl) ?_
     refine vc_end (vq_then (vc_keep [(3, _), (4, _)] ⟨rfl, rfl, trivial⟩ ?_))
     refine vc_ifs rfl ?_ ?_
     ·
      intro hc4
      try simp only [dn] at hc4
      refine vc_code_skip (vq_then (vc_keep [(4, _)] ⟨rfl, trivial⟩ ?_))
      refine vc_ift rfl ?_
      refine vc_seq (vc_region ?_)
      refine vc_y rfl rfl (y_as rfl) ?_
      refine vc_end (vq_then (vc_keep [(2, _)] ⟨rfl, trivial⟩ (vc_ret (vq_block_ret (vq_then_ret ?_)))))
      refine vq_ret1 st (.inl rfl) results79 (.tmp rfl) ?_
      refine ⟨_, rfl, ?_⟩
      refine ⟨?_, rfl⟩
      rw [Value.bool.injEq, isSign_ref]
      first
      | (symm; simp only [decide_eq_true_eq]; simp only [*, true_or, or_true]; done)
      | (symm; simp only [decide_eq_false_iff_not]; simp only [*, or_self, not_false_eq_true])
     ·
      intro hc4
      try simp only [dn] at hc4
      refine vc_seq (vc_region ?_)
      refine vc_y rfl rfl (y_eqs rfl rfl) ?_
      refine vc_y rfl rfl (y_as rfl) ?_
      refine vc_end (vq_then (vc_keep [(3, _), (4, _)] ⟨rfl, rfl, trivial⟩ ?_))
      refine vc_ifs rfl ?_ ?_
      ·
       intro hc4
       try simp only [dn] at hc4
       refine vc_code_skip (vq_then (vc_keep [(4, _)] ⟨rfl, trivial⟩ ?_))
       refine vc_ift rfl ?_
       refine vc_seq (vc_region ?_)
       refine vc_y rfl rfl (y_as rfl) ?_
       refine vc_end (vq_then (vc_keep [(2, _)] ⟨rfl, trivial⟩ (vc_ret (vq_block_ret (vq_then_ret ?_)))))
       refine vq_ret1 st (.inl rfl) results79 (.tmp rfl) ?_
       refine ⟨_, rfl, ?_⟩
       refine ⟨?_, rfl⟩
       rw [Value.bool.injEq, isSign_ref]
       first
       | (symm; simp only [decide_eq_true_eq]; simp only [*, true_or, or_true]; done)
       | (symm; simp only [decide_eq_false_iff_not]; simp only [*, or_self, not_false_eq_true])
      ·
       intro hc4
       try simp only [dn] at hc4
       refine vc_seq (vc_region ?_)
       refine vc_y rfl rfl (y_eqs rfl rfl) ?_
       refine vc_y rfl rfl (y_as rfl) ?_
       refine vc_end (vq_then (vc_keep [(3, _), (4, _)] ⟨rfl, rfl, trivial⟩ ?_))
       refine vc_ifs rfl ?_ ?_
       ·
        intro hc4
        try simp only [dn] at hc4
        refine vc_code_skip (vq_then (vc_keep [(4, _)] ⟨rfl, trivial⟩ ?_))
        refine vc_ift rfl ?_
        refine vc_seq (vc_region ?_)
        refine vc_y rfl rfl (y_as rfl) ?_
        refine vc_end (vq_then (vc_keep [(2, _)] ⟨rfl, trivial⟩ (vc_ret (vq_block_ret (vq_then_ret ?_)))))
        refine vq_ret1 st (.inl rfl) results79 (.tmp rfl) ?_
        refine ⟨_, rfl, ?_⟩
        refine ⟨?_, rfl⟩
        rw [Value.bool.injEq, isSign_ref]
        first
        | (symm; simp only [decide_eq_true_eq]; simp only [*, true_or, or_true]; done)
        | (symm; simp only [decide_eq_false_iff_not]; simp only [*, or_self, not_false_eq_true])
       ·
        intro hc4
        try simp only [dn] at hc4
        refine vc_seq (vc_region ?_)
        refine vc_y rfl rfl (y_eqs rfl rfl) ?_
        refine vc_y rfl rfl (y_as rfl) ?_
        refine vc_end (vq_then (vc_keep [(3, _), (4, _)] ⟨rfl, rfl, trivial⟩ ?_))
        refine vc_ifs rfl ?_ ?_
        ·
         intro hc4
         try simp only [dn] at hc4
         refine vc_code_skip (vq_then (vc_keep [(4, _)] ⟨rfl, trivial⟩ ?_))
         refine vc_ift rfl ?_
         refine vc_seq (vc_region ?_)
         refine vc_y rfl rfl (y_as rfl) ?_
         refine vc_end (vq_then (vc_keep [(2, _)] ⟨rfl, trivial⟩ (vc_ret (vq_block_ret (vq_then_ret ?_)))))
         refine vq_ret1 st (.inl rfl) results79 (.tmp rfl) ?_
         refine ⟨_, rfl, ?_⟩
         refine ⟨?_, rfl⟩
         rw [Value.bool.injEq, isSign_ref]
         first
         | (symm; simp only [decide_eq_true_eq]; simp only [*, true_or, or_true]; done)
         | (symm; simp only [decide_eq_false_iff_not]; simp only [*, or_self, not_false_eq_true])
        ·
         intro hc4
         try simp only [dn] at hc4
         refine vc_seq (vc_region ?_)
         refine vc_y rfl rfl (y_eqs rfl rfl) ?_
         refine vc_y rfl rfl (y_as rfl) ?_
         refine vc_end (vq_then (vc_keep [(3, _), (4, _)] ⟨rfl, rfl, trivial⟩ ?_))
         refine vc_ifs rfl ?_ ?_
         ·
          intro hc4
          try simp only [dn] at hc4
          refine vc_code_skip (vq_then (vc_keep [(4, _)] ⟨rfl, trivial⟩ ?_))
          refine vc_ift rfl ?_
          refine vc_seq (vc_region ?_)
          refine vc_y rfl rfl (y_as rfl) ?_
          refine vc_end (vq_then (vc_keep [(2, _)] ⟨rfl, trivial⟩ (vc_ret (vq_block_ret (vq_then_ret ?_)))))
          refine vq_ret1 st (.inl rfl) results79 (.tmp rfl) ?_
          refine ⟨_, rfl, ?_⟩
          refine ⟨?_, rfl⟩
          rw [Value.bool.injEq, isSign_ref]
          first
          | (symm; simp only [decide_eq_true_eq]; simp only [*, true_or, or_true]; done)
          | (symm; simp only [decide_eq_false_iff_not]; simp only [*, or_self, not_false_eq_true])
         ·
          intro hc4
          try simp only [dn] at hc4
          refine vc_seq (vc_region ?_)
          refine vc_y rfl rfl (y_eqs rfl rfl) ?_
          refine vc_y rfl rfl (y_as rfl) ?_
          refine vc_end (vq_then (vc_keep [(3, _), (4, _)] ⟨rfl, rfl, trivial⟩ ?_))
          refine vc_ifs rfl ?_ ?_
          ·
           intro hc4
           try simp only [dn] at hc4
           refine vc_code_skip (vq_then (vc_keep [(4, _)] ⟨rfl, trivial⟩ ?_))
           refine vc_ift rfl ?_
           refine vc_seq (vc_region ?_)
           refine vc_y rfl rfl (y_as rfl) ?_
           refine vc_end (vq_then (vc_keep [(2, _)] ⟨rfl, trivial⟩ (vc_ret (vq_block_ret (vq_then_ret ?_)))))
           refine vq_ret1 st (.inl rfl) results79 (.tmp rfl) ?_
           refine ⟨_, rfl, ?_⟩
           refine ⟨?_, rfl⟩
           rw [Value.bool.injEq, isSign_ref]
           first
           | (symm; simp only [decide_eq_true_eq]; simp only [*, true_or, or_true]; done)
           | (symm; simp only [decide_eq_false_iff_not]; simp only [*, or_self, not_false_eq_true])
          ·
           intro hc4
           try simp only [dn] at hc4
           refine vc_seq (vc_region ?_)
           refine vc_y rfl rfl (y_eqs rfl rfl) ?_
           refine vc_y rfl rfl (y_as rfl) ?_
           refine vc_end (vq_then (vc_keep [(3, _), (4, _)] ⟨rfl, rfl, trivial⟩ ?_))
           refine vc_ifs rfl ?_ ?_
           ·
            intro hc4
            try simp only [dn] at hc4
            refine vc_code_skip (vq_then (vc_keep [(4, _)] ⟨rfl, trivial⟩ ?_))
            refine vc_ift rfl ?_
            refine vc_seq (vc_region ?_)
            refine vc_y rfl rfl (y_as rfl) ?_
            refine vc_end (vq_then (vc_keep [(2, _)] ⟨rfl, trivial⟩ (vc_ret (vq_block_ret (vq_then_ret ?_)))))
            refine vq_ret1 st (.inl rfl) results79 (.tmp rfl) ?_
            refine ⟨_, rfl, ?_⟩
            refine ⟨?_, rfl⟩
            rw [Value.bool.injEq, isSign_ref]
            first
            | (symm; simp only [decide_eq_true_eq]; simp only [*, true_or, or_true]; done)
            | (symm; simp only [decide_eq_false_iff_not]; simp only [*, or_self, not_false_eq_true])
           ·
            intro hc4
            try simp only [dn] at hc4
            refine vc_seq (vc_region ?_)
            refine vc_y rfl rfl (y_eqs rfl rfl) ?_
            refine vc_y rfl rfl (y_as rfl) ?_
            refine vc_end (vq_then (vc_keep [(3, _), (4, _)] ⟨rfl, rfl, trivial⟩ ?_))
            refine vc_ifs rfl ?_ ?_
            ·
             intro hc4
             try simp only [dn] at hc4
             refine vc_code_skip (vq_then (vc_keep [(4, _)] ⟨rfl, trivial⟩ ?_))
             refine vc_ift rfl ?_
             refine vc_seq (vc_region ?_)
             refine vc_y rfl rfl (y_as rfl) ?_
             refine vc_end (vq_then (vc_keep [(2, _)] ⟨rfl, trivial⟩ (vc_ret (vq_block_ret (vq_then_ret ?_)))))
             refine vq_ret1 st (.inl rfl) results79 (.tmp rfl) ?_
             refine ⟨_, rfl, ?_⟩
             refine ⟨?_, rfl⟩
             rw [Value.bool.injEq, isSign_ref]
             first
             | (symm; simp only [decide_eq_true_eq]; simp only [*, true_or, or_true]; done)
             | (symm; simp only [decide_eq_false_iff_not]; simp only [*, or_self, not_false_eq_true])
            ·
             intro hc4
             try simp only [dn] at hc4
             refine vc_seq (vc_region ?_)
             refine vc_y rfl rfl (y_eqs rfl rfl) ?_
             refine vc_y rfl rfl (y_as rfl) ?_
             refine vc_end (vq_then (vc_keep [(3, _), (4, _)] ⟨rfl, rfl, trivial⟩ ?_))
             refine vc_ifs rfl ?_ ?_
             ·
              intro hc4
              try simp only [dn] at hc4
              refine vc_code_skip (vq_then (vc_keep [(4, _)] ⟨rfl, trivial⟩ ?_))
              refine vc_ift rfl ?_
              refine vc_seq (vc_region ?_)
              refine vc_y rfl rfl (y_as rfl) ?_
              refine vc_end (vq_then (vc_keep [(2, _)] ⟨rfl, trivial⟩ (vc_ret (vq_block_ret (vq_then_ret ?_)))))
              refine vq_ret1 st (.inl rfl) results79 (.tmp rfl) ?_
              refine ⟨_, rfl, ?_⟩
              refine ⟨?_, rfl⟩
              rw [Value.bool.injEq, isSign_ref]
              first
              | (symm; simp only [decide_eq_true_eq]; simp only [*, true_or, or_true]; done)
              | (symm; simp only [decide_eq_false_iff_not]; simp only [*, or_self, not_false_eq_true])
             ·
              intro hc4
              try simp only [dn] at hc4
              refine vc_seq (vc_region ?_)
              refine vc_y rfl rfl (y_eqs rfl rfl) ?_
              refine vc_y rfl rfl (y_as rfl) ?_
              refine vc_end (vq_then (vc_keep [(3, _), (4, _)] ⟨rfl, rfl, trivial⟩ ?_))
              refine vc_ifs rfl ?_ ?_
              ·
               intro hc4
               try simp only [dn] at hc4
               refine vc_code_skip (vq_then (vc_keep [(4, _)] ⟨rfl, trivial⟩ ?_))
               refine vc_ift rfl ?_
               refine vc_seq (vc_region ?_)
               refine vc_y rfl rfl (y_as rfl) ?_
               refine vc_end (vq_then (vc_keep [(2, _)] ⟨rfl, trivial⟩ (vc_ret (vq_block_ret (vq_then_ret ?_)))))
               refine vq_ret1 st (.inl rfl) results79 (.tmp rfl) ?_
               refine ⟨_, rfl, ?_⟩
               refine ⟨?_, rfl⟩
               rw [Value.bool.injEq, isSign_ref]
               first
               | (symm; simp only [decide_eq_true_eq]; simp only [*, true_or, or_true]; done)
               | (symm; simp only [decide_eq_false_iff_not]; simp only [*, or_self, not_false_eq_true])
              ·
               intro hc4
               try simp only [dn] at hc4
               refine vc_seq (vc_region ?_)
               refine vc_y rfl rfl (y_eqs rfl rfl) ?_
               refine vc_y rfl rfl (y_as rfl) ?_
               refine vc_end (vq_then (vc_keep [(3, _), (4, _)] ⟨rfl, rfl, trivial⟩ ?_))
               refine vc_ifs rfl ?_ ?_
               ·
                intro hc4
                try simp only [dn] at hc4
                refine vc_code_skip (vq_then (vc_keep [(4, _)] ⟨rfl, trivial⟩ ?_))
                refine vc_ift rfl ?_
                refine vc_seq (vc_region ?_)
                refine vc_y rfl rfl (y_as rfl) ?_
                refine vc_end (vq_then (vc_keep [(2, _)] ⟨rfl, trivial⟩ (vc_ret (vq_block_ret (vq_then_ret ?_)))))
                refine vq_ret1 st (.inl rfl) results79 (.tmp rfl) ?_
                refine ⟨_, rfl, ?_⟩
                refine ⟨?_, rfl⟩
                rw [Value.bool.injEq, isSign_ref]
                first
                | (symm; simp only [decide_eq_true_eq]; simp only [*, true_or, or_true]; done)
                | (symm; simp only [decide_eq_false_iff_not]; simp only [*, or_self, not_false_eq_true])
               ·
                intro hc4
                try simp only [dn] at hc4
                refine vc_seq (vc_region ?_)
                refine vc_y rfl rfl (y_eqs rfl rfl) ?_
                refine vc_y rfl rfl (y_as rfl) ?_
                refine vc_end (vq_then (vc_keep [(3, _), (4, _)] ⟨rfl, rfl, trivial⟩ ?_))
                refine vc_ifs rfl ?_ ?_
                ·
                 intro hc4
                 try simp only [dn] at hc4
                 refine vc_code_skip (vq_then (vc_keep [(4, _)] ⟨rfl, trivial⟩ ?_))
                 refine vc_ift rfl ?_
                 refine vc_seq (vc_region ?_)
                 refine vc_y rfl rfl (y_as rfl) ?_
                 refine vc_end (vq_then (vc_keep [(2, _)] ⟨rfl, trivial⟩ (vc_ret (vq_block_ret (vq_then_ret ?_)))))
                 refine vq_ret1 st (.inl rfl) results79 (.tmp rfl) ?_
                 refine ⟨_, rfl, ?_⟩
                 refine ⟨?_, rfl⟩
                 rw [Value.bool.injEq, isSign_ref]
                 first
                 | (symm; simp only [decide_eq_true_eq]; simp only [*, true_or, or_true]; done)
                 | (symm; simp only [decide_eq_false_iff_not]; simp only [*, or_self, not_false_eq_true])
                ·
                 intro hc4
                 try simp only [dn] at hc4
                 refine vc_seq (vc_region ?_)
                 refine vc_y rfl rfl (y_eqs rfl rfl) ?_
                 refine vc_y rfl rfl (y_as rfl) ?_
                 refine vc_end (vq_then (vc_keep [(3, _), (4, _)] ⟨rfl, rfl, trivial⟩ ?_))
                 refine vc_ifs rfl ?_ ?_
                 ·
                  intro hc4
                  try simp only [dn] at hc4
                  refine vc_code_skip (vq_then (vc_keep [(4, _)] ⟨rfl, trivial⟩ ?_))
                  refine vc_ift rfl ?_
                  refine vc_seq (vc_region ?_)
                  refine vc_y rfl rfl (y_as rfl) ?_
                  refine vc_end (vq_then (vc_keep [(2, _)] ⟨rfl, trivial⟩ (vc_ret (vq_block_ret (vq_then_ret ?_)))))
                  refine vq_ret1 st (.inl rfl) results79 (.tmp rfl) ?_
                  refine ⟨_, rfl, ?_⟩
                  refine ⟨?_, rfl⟩
                  rw [Value.bool.injEq, isSign_ref]
                  first
                  | (symm; simp only [decide_eq_true_eq]; simp only [*, true_or, or_true]; done)
                  | (symm; simp only [decide_eq_false_iff_not]; simp only [*, or_self, not_false_eq_true])
                 ·
                  intro hc4
                  try simp only [dn] at hc4
                  refine vc_seq (vc_region ?_)
                  refine vc_y rfl rfl (y_eqs rfl rfl) ?_
                  refine vc_y rfl rfl (y_as rfl) ?_
                  refine vc_end (vq_then (vc_keep [(3, _), (4, _)] ⟨rfl, rfl, trivial⟩ ?_))
                  refine vc_ifs rfl ?_ ?_
                  ·
                   intro hc4
                   try simp only [dn] at hc4
                   refine vc_code_skip (vq_then (vc_keep [(4, _)] ⟨rfl, trivial⟩ ?_))
                   refine vc_ift rfl ?_
                   refine vc_seq (vc_region ?_)
                   refine vc_y rfl rfl (y_as rfl) ?_
                   refine vc_end (vq_then (vc_keep [(2, _)] ⟨rfl, trivial⟩ (vc_ret (vq_block_ret (vq_then_ret ?_)))))
                   refine vq_ret1 st (.inl rfl) results79 (.tmp rfl) ?_
                   refine ⟨_, rfl, ?_⟩
                   refine ⟨?_, rfl⟩
                   rw [Value.bool.injEq, isSign_ref]
                   first
                   | (symm; simp only [decide_eq_true_eq]; simp only [*, true_or, or_true]; done)
                   | (symm; simp only [decide_eq_false_iff_not]; simp only [*, or_self, not_false_eq_true])
                  ·
                   intro hc4
                   try simp only [dn] at hc4
                   refine vc_seq (vc_region ?_)
                   refine vc_y rfl rfl (y_eqs rfl rfl) ?_
                   refine vc_y rfl rfl (y_as rfl) ?_
                   refine vc_end (vq_then (vc_keep [(3, _), (4, _)] ⟨rfl, rfl, trivial⟩ ?_))
                   refine vc_ifs rfl ?_ ?_
                   ·
                    intro hc4
                    try simp only [dn] at hc4
                    refine vc_code_skip (vq_then (vc_keep [(4, _)] ⟨rfl, trivial⟩ ?_))
                    refine vc_ift rfl ?_
                    refine vc_seq (vc_region ?_)
                    refine vc_y rfl rfl (y_as rfl) ?_
                    refine vc_end (vq_then (vc_keep [(2, _)] ⟨rfl, trivial⟩ (vc_ret (vq_block_ret (vq_then_ret ?_)))))
                    refine vq_ret1 st (.inl rfl) results79 (.tmp rfl) ?_
                    refine ⟨_, rfl, ?_⟩
                    refine ⟨?_, rfl⟩
                    rw [Value.bool.injEq, isSign_ref]
                    first
                    | (symm; simp only [decide_eq_true_eq]; simp only [*, true_or, or_true]; done)
                    | (symm; simp only [decide_eq_false_iff_not]; simp only [*, or_self, not_false_eq_true])
                   ·
                    intro hc4
                    try simp only [dn] at hc4
                    refine vc_seq (vc_region ?_)
                    refine vc_y rfl rfl (y_eqs rfl rfl) ?_
                    refine vc_y rfl rfl (y_as rfl) ?_
                    refine vc_end (vq_then (vc_keep [(3, _), (4, _)] ⟨rfl, rfl, trivial⟩ ?_))
                    refine vc_ifs rfl ?_ ?_
                    ·
                     intro hc4
                     try simp only [dn] at hc4
                     refine vc_code_skip (vq_then (vc_keep [(4, _)] ⟨rfl, trivial⟩ ?_))
                     refine vc_ift rfl ?_
                     refine vc_seq (vc_region ?_)
                     refine vc_y rfl rfl (y_as rfl) ?_
                     refine vc_end (vq_then (vc_keep [(2, _)] ⟨rfl, trivial⟩ (vc_ret (vq_block_ret (vq_then_ret ?_)))))
                     refine vq_ret1 st (.inl rfl) results79 (.tmp rfl) ?_
                     refine ⟨_, rfl, ?_⟩
                     refine ⟨?_, rfl⟩
                     rw [Value.bool.injEq, isSign_ref]
                     first
                     | (symm; simp only [decide_eq_true_eq]; simp only [*, true_or, or_true]; done)
                     | (symm; simp only [decide_eq_false_iff_not]; simp only [*, or_self, not_false_eq_true])
                    ·
                     intro hc4
                     try simp only [dn] at hc4
                     refine vc_seq (vc_region ?_)
                     refine vc_y rfl rfl (y_eqs rfl rfl) ?_
                     refine vc_y rfl rfl (y_as rfl) ?_
                     refine vc_end (vq_then (vc_keep [(3, _), (4, _)] ⟨rfl, rfl, trivial⟩ ?_))
                     refine vc_ifs rfl ?_ ?_
                     ·
                      intro hc4
                      try simp only [dn] at hc4
                      refine vc_code_skip (vq_then (vc_keep [(4, _)] ⟨rfl, trivial⟩ ?_))
                      refine vc_ift rfl ?_
                      refine vc_seq (vc_region ?_)
                      refine vc_y rfl rfl (y_as rfl) ?_
                      refine vc_end (vq_then (vc_keep [(2, _)] ⟨rfl, trivial⟩ (vc_ret (vq_block_ret (vq_then_ret ?_)))))
                      refine vq_ret1 st (.inl rfl) results79 (.tmp rfl) ?_
                      refine ⟨_, rfl, ?_⟩
                      refine ⟨?_, rfl⟩
                      rw [Value.bool.injEq, isSign_ref]
                      first
                      | (symm; simp only [decide_eq_true_eq]; simp only [*, true_or, or_true]; done)
                      | (symm; simp only [decide_eq_false_iff_not]; simp only [*, or_self, not_false_eq_true])
                     ·
                      intro hc4
                      try simp only [dn] at hc4
                      refine vc_seq (vc_region ?_)
                      refine vc_y rfl rfl (y_eqs rfl rfl) ?_
                      refine vc_y rfl rfl (y_as rfl) ?_
                      refine vc_end (vq_then (vc_keep [(3, _), (4, _)] ⟨rfl, rfl, trivial⟩ ?_))
                      refine vc_ifs rfl ?_ ?_
                      ·
                       intro hc4
                       try simp only [dn] at hc4
                       refine vc_code_skip (vq_then (vc_keep [(4, _)] ⟨rfl, trivial⟩ ?_))
                       refine vc_ift rfl ?_
                       refine vc_seq (vc_region ?_)
                       refine vc_y rfl rfl (y_as rfl) ?_
                       refine vc_end (vq_then (vc_keep [(2, _)] ⟨rfl, trivial⟩ (vc_ret (vq_block_ret (vq_then_ret ?_)))))
                       refine vq_ret1 st (.inl rfl) results79 (.tmp rfl) ?_
                       refine ⟨_, rfl, ?_⟩
                       refine ⟨?_, rfl⟩
                       rw [Value.bool.injEq, isSign_ref]
                       first
                       | (symm; simp only [decide_eq_true_eq]; simp only [*, true_or, or_true]; done)
                       | (symm; simp only [decide_eq_false_iff_not]; simp only [*, or_self, not_false_eq_true])
                      ·
                       intro hc4
                       try simp only [dn] at hc4
                       refine vc_seq (vc_region ?_)
                       refine vc_y rfl rfl (y_eqs rfl rfl) ?_
                       refine vc_y rfl rfl (y_as rfl) ?_
                       refine vc_end (vq_then (vc_keep [(3, _), (4, _)] ⟨rfl, rfl, trivial⟩ ?_))
                       refine vc_ifs rfl ?_ ?_
                       ·
                        intro hc4
                        try simp only [dn] at hc4
                        refine vc_code_skip (vq_then (vc_keep [(4, _)] ⟨rfl, trivial⟩ ?_))
                        refine vc_ift rfl ?_
                        refine vc_seq (vc_region ?_)
                        refine vc_y rfl rfl (y_as rfl) ?_
                        refine vc_end (vq_then (vc_keep [(2, _)] ⟨rfl, trivial⟩ (vc_ret (vq_block_ret (vq_then_ret ?_)))))
                        refine vq_ret1 st (.inl rfl) results79 (.tmp rfl) ?_
                        refine ⟨_, rfl, ?_⟩
                        refine ⟨?_, rfl⟩
                        rw [Value.bool.injEq, isSign_ref]
                        first
                        | (symm; simp only [decide_eq_true_eq]; simp only [*, true_or, or_true]; done)
                        | (symm; simp only [decide_eq_false_iff_not]; simp only [*, or_self, not_false_eq_true])
                       ·
                        intro hc4
                        try simp only [dn] at hc4
                        refine vc_region ?_
                        refine vc_y rfl rfl (y_eqs rfl rfl) ?_
                        refine vc_y rfl rfl (y_as rfl) ?_
                        refine vc_end (vq_then (vc_keep [(4, _)] ⟨rfl, trivial⟩ ?_))
                        refine vc_ifs rfl ?_ ?_
                        ·
                         intro hc4
                         try simp only [dn] at hc4
                         refine vc_seq (vc_region ?_)
                         refine vc_y rfl rfl (y_as rfl) ?_
                         refine vc_end (vq_then (vc_keep [(2, _)] ⟨rfl, trivial⟩ (vc_ret (vq_block_ret (vq_then_ret ?_)))))
                         refine vq_ret1 st (.inl rfl) results79 (.tmp rfl) ?_
                         refine ⟨_, rfl, ?_⟩
                         refine ⟨?_, rfl⟩
                         rw [Value.bool.injEq, isSign_ref]
                         first
                         | (symm; simp only [decide_eq_true_eq]; simp only [*, true_or, or_true]; done)
                         | (symm; simp only [decide_eq_false_iff_not]; simp only [*, or_self, not_false_eq_true])
                        ·
                         intro hc4
                         try simp only [dn] at hc4
                         refine vc_code_skip (vq_block (vq_then (vc_keep [] trivial (vc_seq (vc_region ?_)))))
                         refine vc_y rfl rfl (y_as rfl) ?_
                         refine vc_end (vq_then (vc_keep [(2, _)] ⟨rfl, trivial⟩ (vc_ret ?_)))
                         refine vq_ret1 st (.inl rfl) results79 (.tmp rfl) ?_
                         refine ⟨_, rfl, ?_⟩
                         refine ⟨?_, rfl⟩
                         rw [Value.bool.injEq, isSign_ref]
                         first
                         | (symm; simp only [decide_eq_true_eq]; simp only [*, true_or, or_true]; done)
                         | (symm; simp only [decide_eq_false_iff_not]; simp only [*, or_self, not_false_eq_true])

end Go.Proofs.YtggnfanphcaamaaGreatDoor


namespace Go.Proofs.YtggnfanphcaamaaGreatDoor
open Go.RowKit Sx LexS _root_.Go.Proofs.Tryz
set_option linter.unusedVariables false
set_option linter.unusedSimpArgs false
theorem isRem_cons {s : List UInt8} {j : Nat} (hj : j < s.length) (h1 : ((s.getD j 0).toNat : Int) = 47) (h2 : j + 1 < s.length) (h3 : ((s.getD (j + 1) 0).toNat : Int) = 47) : isRem (s.drop j) = true := by
 rw [drop_cons hj, drop_cons h2]
 simp only [isRem, decide_eq_true_eq]
 exact ⟨UInt8.toNat_inj.1 (by simp only [UInt8.reduceToNat]; omega), UInt8.toNat_inj.1 (by simp only [UInt8.reduceToNat]; omega)⟩
theorem isRem_no {s : List UInt8} {j : Nat} (hj : j < s.length) (h : ¬((s.getD j 0).toNat : Int) = 47 ∨ s.length ≤ j + 1 ∨ ¬((s.getD (j + 1) 0).toNat : Int) = 47) : isRem (s.drop j) = false := by
 rw [drop_cons hj]
 by_cases h2 : j + 1 < s.length
 ·
  rw [drop_cons h2]
  simp only [isRem, decide_eq_false_iff_not]
  rintro ⟨h4, h5⟩
  rcases h with h | h | h
  ·
   rw [h4] at h; exact h rfl
  ·
   omega
  ·
   rw [h5] at h; exact h rfl
 ·
  rw [List.drop_eq_nil_of_le (by omega)]; rfl
theorem toLf_step {s : List UInt8} {j : Nat} (hj : j < s.length) (h : ¬((s.getD j 0).toNat : Int) = 10) : toLf (s.drop j) = toLf (s.drop (j + 1)) + 1 := by
 rw [drop_cons hj]
 simp only [toLf]
 rw [if_neg]
 intro h'
 rw [h'] at h
 exact h rfl
theorem toLf_here {s : List UInt8} {j : Nat} (h : s.length ≤ j ∨ ((s.getD j 0).toNat : Int) = 10) : toLf (s.drop j) = 0 := by
 by_cases hj : j < s.length
 ·
  rw [drop_cons hj]
  simp only [toLf]
  rw [if_pos (UInt8.toNat_inj.1 (by simp only [UInt8.reduceToNat]; omega))]
 ·
  rw [List.drop_eq_nil_of_le (by omega)]; rfl
/-- the document's answer for a number's digits -/
def numR (l : List UInt8) : Nat × Bool := if l = [] ∨ (1 < l.length ∧ l.getD 0 0 = 48) ∨ l.all isDigit = false ∨ 9223372036854775807 < numVal l then (0, false) else (numVal l, true)
theorem numVal_mono (a b : List UInt8) : numVal a ≤ numVal (a ++ b) := by
 induction b generalizing a with
 | nil => simp
 | cons c r ih =>
  have h := ih (a ++ [c])
  rw [numVal_snoc] at h
  rw [show a ++ c :: r = a ++ [c] ++ r by simp]
  omega
theorem numVal_take_le (l : List UInt8) (j : Nat) : numVal (l.take j) ≤ numVal l := by
 have h := numVal_mono (l.take j) (l.drop j)
 rwa [List.take_append_drop] at h
theorem numVal_step {l : List UInt8} {j : Nat} (hj : j < l.length) : numVal (l.take (j + 1)) = 10 * numVal (l.take j) + ((l.getD j 0).toNat - 48) := by
 rw [← numVal_snoc, List.take_succ_eq_append_getElem (by omega)]
 simp [List.getD, hj]

set_option maxHeartbeats 1000000 in
theorem rskip_any (s : List UInt8) (i : Nat) (w : World) (hi : i ≤ s.length) (hs : s.length ≤ 9000000000000000000) :
    Ret Tryz.prog 62 [str s, .int .i64 (i : Int)] w fun v w' => v = .int .i64 ((i + skip (s.drop i) : Nat) : Int) ∧ w' = w := by
 refine ret_of [_, _] func62 rfl ntmps62 rfl ?_
 have st := St.init w []
 refine vc_seq (vc_region ?_)
 refine vc_y rfl rfl (y_as rfl) ?_
 refine vc_end (vq_then (vc_keep [(0, _), (1, _)] ⟨rfl, rfl, trivial⟩ (vc_seq (vc_block ?_))))
 refine vc_loop (w0 := _) (M := _) (fun (j : Nat) => [(0, str s), (1, .int .i64 (j : Int))]) (fun _ => []) (fun j w' => j ≤ s.length ∧ j + skip (s.drop j) = i + skip (s.drop i) ∧ w' = w) (fun j => s.length - j) i ⟨rfl, rfl, trivial⟩ st ⟨hi, rfl, rfl⟩ ?_
 rintro j w' ⟨hj, he, rfl⟩ st
 refine vc_seq (vc_seq (vc_region ?_))
 iterate 2 refine vc_y rfl rfl (y_mv rfl) ?_
 refine vc_y rfl rfl (y_lens rfl underlying9) ?_
 refine vc_y rfl rfl (y_lss rfl rfl) ?_
 refine vc_end (vq_then (vc_keep [(0, _), (1, _), (8, _)] ⟨rfl, rfl, rfl, trivial⟩ ?_))
 refine vc_ifs rfl ?_ ?_
 ·
  intro hc8
  try simp only [dn] at hc8
  refine vc_code_skip (vq_then (vc_keep [(0, _), (1, _)] ⟨rfl, rfl, trivial⟩ (vc_block (vc_seq (vc_seq (vc_region ?_))))))
  iterate 2 refine vc_y rfl rfl (y_mv rfl) ?_
  refine vc_y rfl rfl (y_ixs (k := j) rfl rfl underlying9 rfl (by omega)) ?_
  refine vc_e (e_call [_] rfl rfl call74 rfl (rblank_any _ _) ?_)
  rintro _ w ⟨rfl, rfl⟩
  refine vc_end (vq_then (vc_keep [(0, _), (1, _), (12, _)] ⟨rfl, rfl, rfl, trivial⟩ ?_))
  refine vc_ifs rfl ?_ ?_
  ·
   intro hc12
   try simp only [dn] at hc12
   refine vc_seq (vc_region ?_)
   refine vc_y rfl rfl (y_mv rfl) ?_
   refine vc_y rfl rfl (y_add rfl rfl rfl (by omega) (by omega)) ?_
   refine vc_y rfl rfl (y_as rfl) ?_
   refine vc_end (vq_then (vc_keep [(0, _), (1, _)] ⟨rfl, rfl, trivial⟩ (vc_exit (vq_then_exit (vq_block_exit ?_)))))
   refine vq_again (j + 1) ⟨rfl, rfl, trivial⟩ st ?_ ?_
   ·
    exact ⟨by omega, by rw [drop_cons (by omega), skip_blank (by assumption)] at he; omega, rfl⟩
   ·
    omega
  ·
   intro hc12
   try simp only [dn] at hc12
   refine vc_code_skip (vq_then (vc_keep [(0, _), (1, _)] ⟨rfl, rfl, trivial⟩ (vc_seq (vc_seq (vc_region ?_)))))
   iterate 2 refine vc_y rfl rfl (y_mv rfl) ?_
   refine vc_y rfl rfl (y_ixs (k := j) rfl rfl underlying9 rfl (by omega)) ?_
   refine vc_y rfl rfl (y_nei rfl rfl) ?_
   refine vc_e (e_mvb rfl rfl rfl ?_ ?_)
   ·
    intro hg19
    try simp only [dn] at hg19
    iterate 5 refine vc_e (e_skip rfl rfl ?_)
    refine vc_y rfl rfl (y_pickt rfl rfl) ?_
    refine vc_y rfl rfl (y_mv rfl) ?_
    iterate 5 refine vc_e (e_skip rfl rfl ?_)
    refine vc_y rfl rfl (y_pickt rfl rfl) ?_
    refine vc_end (vq_then (vc_keep [(0, _), (1, _), (32, _)] ⟨rfl, rfl, rfl, trivial⟩ ?_))
    refine vc_ift rfl ?_
    refine vc_seq (vc_region ?_)
    refine vc_y rfl rfl (y_mv rfl) ?_
    refine vc_y rfl rfl (y_as rfl) ?_
    refine vc_end (vq_then (vc_keep [(4, _)] ⟨rfl, trivial⟩ (vc_ret (vq_then_ret (vq_block_ret (vq_then_ret (vq_block_ret (vq_then_ret ?_))))))))
    refine vq_ret1 st (.inl rfl) results62 (.tmp rfl) ?_
    refine ⟨_, rfl, ?_⟩
    refine ⟨?_, rfl⟩
    rcases Nat.lt_or_ge j s.length with hjl | hjl
    case inr =>
     obtain rfl : j = s.length := by omega
     simp only [List.drop_length, skip_nil] at he
     rw [← he]; rfl
    case inl =>
       first
       | (exfalso; omega)
       | (have hr : isRem (s.drop j) = false := isRem_no (by omega) (by first | (left; omega) | (right; left; omega) | (right; right; omega))
          have hd := drop_cons (s := s) (j := j) (by omega)
          rw [hd] at hr
          rw [hd, skip_other (by assumption) hr] at he
          rw [← he]; rfl)
   ·
    intro hg19
    try simp only [dn] at hg19
    refine vc_y rfl rfl (y_mv rfl) ?_
    refine vc_y rfl rfl (y_add rfl rfl rfl (by omega) (by omega)) ?_
    refine vc_y rfl rfl (y_mv rfl) ?_
    refine vc_y rfl rfl (y_lens rfl underlying9) ?_
    refine vc_y rfl rfl (y_geq rfl rfl) ?_
    refine vc_y rfl rfl (y_pickf rfl rfl) ?_
    refine vc_e (e_mvb rfl rfl rfl ?_ ?_)
    ·
     intro hg26
     try simp only [dn] at hg26
     iterate 5 refine vc_e (e_skip rfl rfl ?_)
     refine vc_y rfl rfl (y_pickt rfl rfl) ?_
     refine vc_end (vq_then (vc_keep [(0, _), (1, _), (32, _)] ⟨rfl, rfl, rfl, trivial⟩ ?_))
     refine vc_ift rfl ?_
     refine vc_seq (vc_region ?_)
     refine vc_y rfl rfl (y_mv rfl) ?_
     refine vc_y rfl rfl (y_as rfl) ?_
     refine vc_end (vq_then (vc_keep [(4, _)] ⟨rfl, trivial⟩ (vc_ret (vq_then_ret (vq_block_ret (vq_then_ret (vq_block_ret (vq_then_ret ?_))))))))
     refine vq_ret1 st (.inl rfl) results62 (.tmp rfl) ?_
     refine ⟨_, rfl, ?_⟩
     refine ⟨?_, rfl⟩
     rcases Nat.lt_or_ge j s.length with hjl | hjl
     case inr =>
      obtain rfl : j = s.length := by omega
      simp only [List.drop_length, skip_nil] at he
      rw [← he]; rfl
     case inl =>
        first
        | (exfalso; omega)
        | (have hr : isRem (s.drop j) = false := isRem_no (by omega) (by first | (left; omega) | (right; left; omega) | (right; right; omega))
           have hd := drop_cons (s := s) (j := j) (by omega)
           rw [hd] at hr
           rw [hd, skip_other (by assumption) hr] at he
           rw [← he]; rfl)
    ·
     intro hg26
     try simp only [dn] at hg26
     iterate 2 refine vc_y rfl rfl (y_mv rfl) ?_
     refine vc_y rfl rfl (y_add rfl rfl rfl (by omega) (by omega)) ?_
     refine vc_y rfl rfl (y_ixs (k := (j + 1)) rfl rfl underlying9 rfl (by omega)) ?_
     refine vc_y rfl rfl (y_nei rfl rfl) ?_
     refine vc_y rfl rfl (y_pickf rfl rfl) ?_
     refine vc_end (vq_then (vc_keep [(0, _), (1, _), (32, _)] ⟨rfl, rfl, rfl, trivial⟩ ?_))
     refine vc_ifs rfl ?_ ?_
     ·
      intro hc32
      try simp only [dn] at hc32
      refine vc_seq (vc_region ?_)
      refine vc_y rfl rfl (y_mv rfl) ?_
      refine vc_y rfl rfl (y_as rfl) ?_
      refine vc_end (vq_then (vc_keep [(4, _)] ⟨rfl, trivial⟩ (vc_ret (vq_then_ret (vq_block_ret (vq_then_ret (vq_block_ret (vq_then_ret ?_))))))))
      refine vq_ret1 st (.inl rfl) results62 (.tmp rfl) ?_
      refine ⟨_, rfl, ?_⟩
      refine ⟨?_, rfl⟩
      rcases Nat.lt_or_ge j s.length with hjl | hjl
      case inr =>
       obtain rfl : j = s.length := by omega
       simp only [List.drop_length, skip_nil] at he
       rw [← he]; rfl
      case inl =>
         first
         | (exfalso; omega)
         | (have hr : isRem (s.drop j) = false := isRem_no (by omega) (by first | (left; omega) | (right; left; omega) | (right; right; omega))
            have hd := drop_cons (s := s) (j := j) (by omega)
            rw [hd] at hr
            rw [hd, skip_other (by assumption) hr] at he
            rw [← he]; rfl)
     ·
      intro hc32
      try simp only [dn] at hc32
      have hr : isRem (s.drop j) = true := isRem_cons (by omega) (by assumption) (by omega) (by assumption)
      refine vc_code_skip (vq_then (vc_keep [(0, _), (1, _)] ⟨rfl, rfl, trivial⟩ (vc_block ?_)))
      refine vc_loop (w0 := _) (M := _) (fun (m : Nat) => [(0, str s), (1, .int .i64 (m : Int))]) (fun _ => []) (fun m w'' => j ≤ m ∧ m ≤ s.length ∧ m + toLf (s.drop m) = j + toLf (s.drop j) ∧ w'' = w) (fun m => s.length - m) j ⟨rfl, rfl, trivial⟩ st ⟨by omega, by omega, rfl, rfl⟩ ?_
      rintro m w' ⟨hjm, hm, hme, rfl⟩ st
      refine vc_seq (vc_seq (vc_region ?_))
      iterate 2 refine vc_y rfl rfl (y_mv rfl) ?_
      refine vc_y rfl rfl (y_lens rfl underlying9) ?_
      refine vc_y rfl rfl (y_lss rfl rfl) ?_
      refine vc_e (e_mvb rfl rfl rfl ?_ ?_)
      ·
       intro hg38
       try simp only [dn] at hg38
       iterate 2 refine vc_y rfl rfl (y_mv rfl) ?_
       refine vc_y rfl rfl (y_ixs (k := _) rfl rfl underlying9 rfl (by omega)) ?_
       refine vc_y rfl rfl (y_nei rfl rfl) ?_
       refine vc_y rfl rfl (y_pickt rfl rfl) ?_
       refine vc_end (vq_then (vc_keep [(0, _), (1, _), (43, _)] ⟨rfl, rfl, rfl, trivial⟩ ?_))
       refine vc_ifs rfl ?_ ?_
       ·
        intro hc43
        try simp only [dn] at hc43
        refine vc_code_skip (vq_then (vc_keep [(0, _), (1, _)] ⟨rfl, rfl, trivial⟩ (vc_block (vc_region ?_))))
        refine vc_y rfl rfl (y_mv rfl) ?_
        refine vc_y rfl rfl (y_add rfl rfl rfl (by omega) (by omega)) ?_
        refine vc_y rfl rfl (y_as rfl) ?_
        refine vc_end (vq_block ?_)
        refine vq_again (m + 1) ⟨rfl, rfl, trivial⟩ st ?_ ?_
        ·
         exact ⟨by omega, by omega, by have := toLf_step (s := s) (j := m) (by omega) (by assumption); omega, rfl⟩
        ·
         omega
       ·
        intro hc43
        try simp only [dn] at hc43
        refine vc_exit (vq_then_exit (vq_then_exit (vq_block_exit (vq_block ?_))))
        refine vq_again m ⟨rfl, rfl, trivial⟩ st ?_ ?_
        ·
         have hz := toLf_here (s := s) (j := m) (by first | (left; omega) | (right; assumption))
         exact ⟨by omega, by rw [skip_rem hr, List.drop_drop] at he; rw [show m = j + toLf (List.drop j s) by omega]; omega, rfl⟩
        ·
         have := toLf_pos hr; have hz := toLf_here (s := s) (j := m) (by first | (left; omega) | (right; assumption)); omega
      ·
       intro hg38
       try simp only [dn] at hg38
       iterate 4 refine vc_e (e_skip rfl rfl ?_)
       refine vc_y rfl rfl (y_pickf rfl rfl) ?_
       refine vc_end (vq_then (vc_keep [(0, _), (1, _), (43, _)] ⟨rfl, rfl, rfl, trivial⟩ ?_))
       refine vc_iff rfl ?_
       refine vc_exit (vq_then_exit (vq_then_exit (vq_block_exit (vq_block ?_))))
       refine vq_again m ⟨rfl, rfl, trivial⟩ st ?_ ?_
       ·
        have hz := toLf_here (s := s) (j := m) (by first | (left; omega) | (right; assumption))
        exact ⟨by omega, by rw [skip_rem hr, List.drop_drop] at he; rw [show m = j + toLf (List.drop j s) by omega]; omega, rfl⟩
       ·
        have := toLf_pos hr; have hz := toLf_here (s := s) (j := m) (by first | (left; omega) | (right; assumption)); omega
 ·
  intro hc8
  try simp only [dn] at hc8
  refine vc_exit (vq_then_exit (vq_then_exit (vq_block_exit (vq_then (vc_keep [(1, _)] ⟨rfl, trivial⟩ (vc_seq (vc_region ?_)))))))
  refine vc_y rfl rfl (y_mv rfl) ?_
  refine vc_y rfl rfl (y_as rfl) ?_
  refine vc_end (vq_then (vc_keep [(4, _)] ⟨rfl, trivial⟩ (vc_ret ?_)))
  refine vq_ret1 st (.inl rfl) results62 (.tmp rfl) ?_
  refine ⟨_, rfl, ?_⟩
  refine ⟨?_, rfl⟩
  rcases Nat.lt_or_ge j s.length with hjl | hjl
  case inr =>
   obtain rfl : j = s.length := by omega
   simp only [List.drop_length, skip_nil] at he
   rw [← he]; rfl
  case inl =>
     first
     | (exfalso; omega)
     | (have hr : isRem (s.drop j) = false := isRem_no (by omega) (by first | (left; omega) | (right; left; omega) | (right; right; omega))
        have hd := drop_cons (s := s) (j := j) (by omega)
        rw [hd] at hr
        rw [hd, skip_other (by assumption) hr] at he
        rw [← he]; rfl)

set_option maxHeartbeats 1000000 in
theorem rnumber_any (l : List UInt8) (w : World) (hs : l.length ≤ 9000000000000000000) :
    Ret Tryz.prog 78 [str l] w fun v w' => v = .tuple [.int .i64 ((numR l).1 : Int), .bool (numR l).2].toArray ∧ w' = w := by
 refine ret_of [_] func78 rfl ntmps78 rfl ?_
 have st := St.init w []
 refine vc_seq (vc_region ?_)
 iterate 2 refine vc_y rfl rfl (y_as rfl) ?_
 refine vc_end (vq_then (vc_keep [(0, _)] ⟨rfl, trivial⟩ (vc_seq (vc_seq (vc_region ?_)))))
 refine vc_y rfl rfl (y_mv rfl) ?_
 refine vc_y rfl rfl (y_eqs rfl rfl) ?_
 refine vc_e (e_mvb rfl rfl rfl ?_ ?_)
 ·
  intro hg9
  try simp only [dn] at hg9
  iterate 8 refine vc_e (e_skip rfl rfl ?_)
  refine vc_y rfl rfl (y_pickt rfl rfl) ?_
  refine vc_end (vq_then (vc_keep [(0, _), (18, _)] ⟨rfl, rfl, trivial⟩ ?_))
  refine vc_ift rfl ?_
  refine vc_seq (vc_region ?_)
  iterate 2 refine vc_y rfl rfl (y_as rfl) ?_
  refine vc_end (vq_then (vc_keep [(2, _), (3, _)] ⟨rfl, rfl, trivial⟩ (vc_ret (vq_then_ret ?_))))
  refine vq_ret2 st (.inl rfl) results78 (.tmp rfl) (.tmp rfl) ?_
  refine ⟨_, rfl, ?_⟩
  refine ⟨?_, rfl⟩
  have fin : ∀ (a : Nat) (b : Bool), numR l = (a, b) → (Value.tuple [.int .i64 (a : Int), .bool b].toArray) = .tuple [.int .i64 ((numR l).1 : Int), .bool (numR l).2].toArray := fun a b h => by rw [h]
  first
  | (refine fin 0 false ?_; unfold numR; rw [if_pos (.inl (by assumption))])
  | (refine fin 0 false ?_; unfold numR; rw [if_pos (.inr (.inl ⟨by omega, u8_eq48 (by assumption)⟩))])
  | (refine fin 0 false ?_; unfold numR; rw [if_pos (.inr (.inr (.inl (all_no (m := j) (by omega) (by assumption)))))])
  | (refine fin 0 false ?_
     have h1 := numVal_step (l := l) (j := j) (by omega)
     have h2 := numVal_take_le l (j + 1)
     unfold numR; rw [if_pos (.inr (.inr (.inr (by omega))))])
  | (obtain rfl : j = l.length := by omega
     rw [List.take_length] at hn hall
     refine fin n true ?_
     unfold numR
     rw [if_neg, hn]
     rintro (h | ⟨h1, h2⟩ | h | h)
     · first | contradiction | (subst h; simp at *)
     · have h3 : ((l.getD 0 0).toNat : Int) = 48 := by rw [h2]; rfl
       first | contradiction | omega
     · rw [hall] at h; cases h
     · omega)
 ·
  intro hg9
  try simp only [dn] at hg9
  refine vc_y rfl rfl (y_mv rfl) ?_
  refine vc_y rfl rfl (y_ixs (k := 0) rfl rfl underlying9 rfl (by (rcases l with _ | ⟨_, _⟩ <;> simp at * ))) ?_
  refine vc_y rfl rfl (y_eqi rfl rfl) ?_
  refine vc_e (e_mvb rfl rfl rfl ?_ ?_)
  ·
   intro hg13
   try simp only [dn] at hg13
   refine vc_y rfl rfl (y_mv rfl) ?_
   refine vc_y rfl rfl (y_lens rfl underlying9) ?_
   refine vc_y rfl rfl (y_gtr rfl rfl) ?_
   refine vc_y rfl rfl (y_pickt rfl rfl) ?_
   refine vc_y rfl rfl (y_pickf rfl rfl) ?_
   refine vc_end (vq_then (vc_keep [(0, _), (18, _)] ⟨rfl, rfl, trivial⟩ ?_))
   refine vc_ifs rfl ?_ ?_
   ·
    intro hc18
    try simp only [dn] at hc18
    refine vc_seq (vc_region ?_)
    iterate 2 refine vc_y rfl rfl (y_as rfl) ?_
    refine vc_end (vq_then (vc_keep [(2, _), (3, _)] ⟨rfl, rfl, trivial⟩ (vc_ret (vq_then_ret ?_))))
    refine vq_ret2 st (.inl rfl) results78 (.tmp rfl) (.tmp rfl) ?_
    refine ⟨_, rfl, ?_⟩
    refine ⟨?_, rfl⟩
    have fin : ∀ (a : Nat) (b : Bool), numR l = (a, b) → (Value.tuple [.int .i64 (a : Int), .bool b].toArray) = .tuple [.int .i64 ((numR l).1 : Int), .bool (numR l).2].toArray := fun a b h => by rw [h]
    first
    | (refine fin 0 false ?_; unfold numR; rw [if_pos (.inl (by assumption))])
    | (refine fin 0 false ?_; unfold numR; rw [if_pos (.inr (.inl ⟨by omega, u8_eq48 (by assumption)⟩))])
    | (refine fin 0 false ?_; unfold numR; rw [if_pos (.inr (.inr (.inl (all_no (m := j) (by omega) (by assumption)))))])
    | (refine fin 0 false ?_
       have h1 := numVal_step (l := l) (j := j) (by omega)
       have h2 := numVal_take_le l (j + 1)
       unfold numR; rw [if_pos (.inr (.inr (.inr (by omega))))])
    | (obtain rfl : j = l.length := by omega
       rw [List.take_length] at hn hall
       refine fin n true ?_
       unfold numR
       rw [if_neg, hn]
       rintro (h | ⟨h1, h2⟩ | h | h)
       · first | contradiction | (subst h; simp at *)
       · have h3 : ((l.getD 0 0).toNat : Int) = 48 := by rw [h2]; rfl
         first | contradiction | omega
       · rw [hall] at h; cases h
       · omega)
   ·
    intro hc18
    try simp only [dn] at hc18
    refine vc_code_skip (vq_then (vc_keep [(0, _)] ⟨rfl, trivial⟩ (vc_seq (vc_region ?_))))
    refine vc_y rfl rfl (y_as rfl) ?_
    refine vc_end (vq_then (vc_keep [(0, _), (4, _)] ⟨rfl, rfl, trivial⟩ (vc_seq (vc_seq (vc_region ?_)))))
    refine vc_y rfl rfl (y_as rfl) ?_
    refine vc_end (vq_then (vc_keep [(0, _), (4, _), (5, _)] ⟨rfl, rfl, rfl, trivial⟩ (vc_block ?_)))
    refine vc_loop (w0 := _) (M := _) (fun (x : Nat × Nat) => [(0, str l), (4, .int .u64 (x.2 : Int)), (5, .int .i64 (x.1 : Int))]) (fun _ => []) (fun x w' => x.1 ≤ l.length ∧ (l.take x.1).all isDigit = true ∧ x.2 = numVal (l.take x.1) ∧ x.2 ≤ 9223372036854775807 ∧ w' = w) (fun x => l.length - x.1) (0, 0) ⟨rfl, rfl, rfl, trivial⟩ st ⟨by simp, by simp, by simp [numVal], by simp, rfl⟩ ?_
    rintro ⟨j, n⟩ w' ⟨hj, hall, hn, hM, rfl⟩ st
    dsimp only at *
    refine vc_seq (vc_seq (vc_region ?_))
    iterate 2 refine vc_y rfl rfl (y_mv rfl) ?_
    refine vc_y rfl rfl (y_lens rfl underlying9) ?_
    refine vc_y rfl rfl (y_lss rfl rfl) ?_
    refine vc_end (vq_then (vc_keep [(0, _), (4, _), (5, _), (22, _)] ⟨rfl, rfl, rfl, rfl, trivial⟩ ?_))
    refine vc_ifs rfl ?_ ?_
    ·
     intro hc22
     try simp only [dn] at hc22
     refine vc_code_skip (vq_then (vc_keep [(0, _), (4, _), (5, _)] ⟨rfl, rfl, rfl, trivial⟩ (vc_seq (vc_block (vc_seq (vc_region ?_))))))
     iterate 2 refine vc_y rfl rfl (y_mv rfl) ?_
     refine vc_y rfl rfl (y_ixs (k := j) rfl rfl underlying9 rfl (by omega)) ?_
     refine vc_y rfl rfl (y_subk rfl rfl (by rw [wrap_u8])) ?_
     refine vc_y rfl rfl (y_cvi rfl underlying105 underlying5 (by rw [wrap_u64])) ?_
     refine vc_y rfl rfl (y_as rfl) ?_
     refine vc_end (vq_then (vc_keep [(0, _), (4, _), (5, _), (6, _)] ⟨rfl, rfl, rfl, rfl, trivial⟩ (vc_seq (vc_seq (vc_region ?_)))))
     iterate 2 refine vc_y rfl rfl (y_mv rfl) ?_
     refine vc_y rfl rfl (y_ixs (k := j) rfl rfl underlying9 rfl (by omega)) ?_
     refine vc_e (e_call [_] rfl rfl call76 rfl (rdigit_any _ _) ?_)
     rintro _ w ⟨rfl, rfl⟩
     refine vc_y rfl rfl (y_not rfl) ?_
     refine vc_e (e_mvb rfl rfl rfl ?_ ?_)
     ·
      intro hg35
      try simp only [dn] at hg35
      iterate 5 refine vc_e (e_skip rfl rfl ?_)
      refine vc_y rfl rfl (y_pickt rfl rfl) ?_
      refine vc_end (vq_then (vc_keep [(0, _), (4, _), (5, _), (6, _), (41, _)] ⟨rfl, rfl, rfl, rfl, rfl, trivial⟩ ?_))
      refine vc_ift rfl ?_
      refine vc_seq (vc_region ?_)
      iterate 2 refine vc_y rfl rfl (y_as rfl) ?_
      refine vc_end (vq_then (vc_keep [(2, _), (3, _)] ⟨rfl, rfl, trivial⟩ (vc_ret (vq_then_ret (vq_block_ret (vq_then_ret (vq_then_ret (vq_block_ret (vq_then_ret ?_)))))))))
      refine vq_ret2 st (.inl rfl) results78 (.tmp rfl) (.tmp rfl) ?_
      refine ⟨_, rfl, ?_⟩
      refine ⟨?_, rfl⟩
      have fin : ∀ (a : Nat) (b : Bool), numR l = (a, b) → (Value.tuple [.int .i64 (a : Int), .bool b].toArray) = .tuple [.int .i64 ((numR l).1 : Int), .bool (numR l).2].toArray := fun a b h => by rw [h]
      first
      | (refine fin 0 false ?_; unfold numR; rw [if_pos (.inl (by assumption))])
      | (refine fin 0 false ?_; unfold numR; rw [if_pos (.inr (.inl ⟨by omega, u8_eq48 (by assumption)⟩))])
      | (refine fin 0 false ?_; unfold numR; rw [if_pos (.inr (.inr (.inl (all_no (m := j) (by omega) (by assumption)))))])
      | (refine fin 0 false ?_
         have h1 := numVal_step (l := l) (j := j) (by omega)
         have h2 := numVal_take_le l (j + 1)
         unfold numR; rw [if_pos (.inr (.inr (.inr (by omega))))])
      | (obtain rfl : j = l.length := by omega
         rw [List.take_length] at hn hall
         refine fin n true ?_
         unfold numR
         rw [if_neg, hn]
         rintro (h | ⟨h1, h2⟩ | h | h)
         · first | contradiction | (subst h; simp at *)
         · have h3 : ((l.getD 0 0).toNat : Int) = 48 := by rw [h2]; rfl
           first | contradiction | omega
         · rw [hall] at h; cases h
         · omega)
     ·
      intro hg35
      try simp only [dn] at hg35
      have hdg := digit_iff (by assumption)
      iterate 2 refine vc_y rfl rfl (y_mv rfl) ?_
      refine vc_y rfl rfl (y_subk rfl rfl (by rw [wrap_u64]; omega : _ = ((9223372036854775807 - ((l.getD j 0).toNat - 48) : Nat) : Int))) ?_
      refine vc_y rfl rfl (y_quok rfl rfl (by omega) (by omega) (by rw [wrap_u64]; omega : _ = (((9223372036854775807 - ((l.getD j 0).toNat - 48)) / 10 : Nat) : Int))) ?_
      refine vc_y rfl rfl (y_gtr rfl rfl) ?_
      refine vc_y rfl rfl (y_pickf rfl rfl) ?_
      refine vc_end (vq_then (vc_keep [(0, _), (4, _), (5, _), (6, _), (41, _)] ⟨rfl, rfl, rfl, rfl, rfl, trivial⟩ ?_))
      refine vc_ifs rfl ?_ ?_
      ·
       intro hc41
       try simp only [dn] at hc41
       refine vc_seq (vc_region ?_)
       iterate 2 refine vc_y rfl rfl (y_as rfl) ?_
       refine vc_end (vq_then (vc_keep [(2, _), (3, _)] ⟨rfl, rfl, trivial⟩ (vc_ret (vq_then_ret (vq_block_ret (vq_then_ret (vq_then_ret (vq_block_ret (vq_then_ret ?_)))))))))
       refine vq_ret2 st (.inl rfl) results78 (.tmp rfl) (.tmp rfl) ?_
       refine ⟨_, rfl, ?_⟩
       refine ⟨?_, rfl⟩
       have fin : ∀ (a : Nat) (b : Bool), numR l = (a, b) → (Value.tuple [.int .i64 (a : Int), .bool b].toArray) = .tuple [.int .i64 ((numR l).1 : Int), .bool (numR l).2].toArray := fun a b h => by rw [h]
       first
       | (refine fin 0 false ?_; unfold numR; rw [if_pos (.inl (by assumption))])
       | (refine fin 0 false ?_; unfold numR; rw [if_pos (.inr (.inl ⟨by omega, u8_eq48 (by assumption)⟩))])
       | (refine fin 0 false ?_; unfold numR; rw [if_pos (.inr (.inr (.inl (all_no (m := j) (by omega) (by assumption)))))])
       | (refine fin 0 false ?_
          have h1 := numVal_step (l := l) (j := j) (by omega)
          have h2 := numVal_take_le l (j + 1)
          unfold numR; rw [if_pos (.inr (.inr (.inr (by omega))))])
       | (obtain rfl : j = l.length := by omega
          rw [List.take_length] at hn hall
          refine fin n true ?_
          unfold numR
          rw [if_neg, hn]
          rintro (h | ⟨h1, h2⟩ | h | h)
          · first | contradiction | (subst h; simp at *)
          · have h3 : ((l.getD 0 0).toNat : Int) = 48 := by rw [h2]; rfl
            first | contradiction | omega
          · rw [hall] at h; cases h
          · omega)
      ·
       intro hc41
       try simp only [dn] at hc41
       refine vc_code_skip (vq_then (vc_keep [(0, _), (4, _), (5, _), (6, _)] ⟨rfl, rfl, rfl, rfl, trivial⟩ (vc_region ?_)))
       refine vc_y rfl rfl (y_mv rfl) ?_
       refine vc_y rfl rfl (y_mulk rfl rfl (by rw [wrap_u64]; omega : _ = ((10 * n : Nat) : Int))) ?_
       refine vc_y rfl rfl (y_mv rfl) ?_
       refine vc_y rfl rfl (y_addk rfl rfl (by rw [wrap_u64]; omega : _ = ((10 * n + ((l.getD j 0).toNat - 48) : Nat) : Int))) ?_
       refine vc_y rfl rfl (y_as rfl) ?_
       refine vc_end (vq_block (vq_then (vc_keep [(0, _), (4, _), (5, _)] ⟨rfl, rfl, rfl, trivial⟩ (vc_region ?_))))
       refine vc_y rfl rfl (y_mv rfl) ?_
       refine vc_y rfl rfl (y_add rfl rfl rfl (by omega) (by omega)) ?_
       refine vc_y rfl rfl (y_as rfl) ?_
       refine vc_end ?_
       refine vq_again (j + 1, 10 * n + ((l.getD j 0).toNat - 48)) ⟨rfl, rfl, rfl, trivial⟩ st ?_ ?_
       ·
        exact ⟨by dsimp only; omega, all_take_succ (by omega) hall (by assumption), by dsimp only; rw [numVal_step (by omega), ← hn], by dsimp only; omega, rfl⟩
       ·
        dsimp only; omega
    ·
     intro hc22
     try simp only [dn] at hc22
     refine vc_exit (vq_then_exit (vq_then_exit (vq_block_exit (vq_then (vc_keep [(4, _)] ⟨rfl, trivial⟩ (vc_seq (vc_region ?_)))))))
     refine vc_y rfl rfl (y_mv rfl) ?_
     refine vc_y rfl rfl (y_cvi rfl underlying2 underlying105 (IntWalk.i64_in _ ⟨by omega, by omega⟩ : _ = (n : Int))) ?_
     iterate 2 refine vc_y rfl rfl (y_as rfl) ?_
     refine vc_end (vq_then (vc_keep [(2, _), (3, _)] ⟨rfl, rfl, trivial⟩ (vc_ret ?_)))
     refine vq_ret2 st (.inl rfl) results78 (.tmp rfl) (.tmp rfl) ?_
     refine ⟨_, rfl, ?_⟩
     refine ⟨?_, rfl⟩
     have fin : ∀ (a : Nat) (b : Bool), numR l = (a, b) → (Value.tuple [.int .i64 (a : Int), .bool b].toArray) = .tuple [.int .i64 ((numR l).1 : Int), .bool (numR l).2].toArray := fun a b h => by rw [h]
     first
     | (refine fin 0 false ?_; unfold numR; rw [if_pos (.inl (by assumption))])
     | (refine fin 0 false ?_; unfold numR; rw [if_pos (.inr (.inl ⟨by omega, u8_eq48 (by assumption)⟩))])
     | (refine fin 0 false ?_; unfold numR; rw [if_pos (.inr (.inr (.inl (all_no (m := j) (by omega) (by assumption)))))])
     | (refine fin 0 false ?_
        have h1 := numVal_step (l := l) (j := j) (by omega)
        have h2 := numVal_take_le l (j + 1)
        unfold numR; rw [if_pos (.inr (.inr (.inr (by omega))))])
     | (obtain rfl : j = l.length := by omega
        rw [List.take_length] at hn hall
        refine fin n true ?_
        unfold numR
        rw [if_neg, hn]
        rintro (h | ⟨h1, h2⟩ | h | h)
        · first | contradiction | (subst h; simp at *)
        · have h3 : ((l.getD 0 0).toNat : Int) = 48 := by rw [h2]; rfl
          first | contradiction | omega
        · rw [hall] at h; cases h
        · omega)
  ·
   intro hg13
   try simp only [dn] at hg13
   iterate 3 refine vc_e (e_skip rfl rfl ?_)
   iterate 2 refine vc_y rfl rfl (y_pickf rfl rfl) ?_
   refine vc_end (vq_then (vc_keep [(0, _), (18, _)] ⟨rfl, rfl, trivial⟩ ?_))
   refine vc_iff rfl ?_
   refine vc_code_skip (vq_then (vc_keep [(0, _)] ⟨rfl, trivial⟩ (vc_seq (vc_region ?_))))
   refine vc_y rfl rfl (y_as rfl) ?_
   refine vc_end (vq_then (vc_keep [(0, _), (4, _)] ⟨rfl, rfl, trivial⟩ (vc_seq (vc_seq (vc_region ?_)))))
   refine vc_y rfl rfl (y_as rfl) ?_
   refine vc_end (vq_then (vc_keep [(0, _), (4, _), (5, _)] ⟨rfl, rfl, rfl, trivial⟩ (vc_block ?_)))
   refine vc_loop (w0 := _) (M := _) (fun (x : Nat × Nat) => [(0, str l), (4, .int .u64 (x.2 : Int)), (5, .int .i64 (x.1 : Int))]) (fun _ => []) (fun x w' => x.1 ≤ l.length ∧ (l.take x.1).all isDigit = true ∧ x.2 = numVal (l.take x.1) ∧ x.2 ≤ 9223372036854775807 ∧ w' = w) (fun x => l.length - x.1) (0, 0) ⟨rfl, rfl, rfl, trivial⟩ st ⟨by simp, by simp, by simp [numVal], by simp, rfl⟩ ?_
   rintro ⟨j, n⟩ w' ⟨hj, hall, hn, hM, rfl⟩ st
   dsimp only at *
   refine vc_seq (vc_seq (vc_region ?_))
   iterate 2 refine vc_y rfl rfl (y_mv rfl) ?_
   refine vc_y rfl rfl (y_lens rfl underlying9) ?_
   refine vc_y rfl rfl (y_lss rfl rfl) ?_
   refine vc_end (vq_then (vc_keep [(0, _), (4, _), (5, _), (22, _)] ⟨rfl, rfl, rfl, rfl, trivial⟩ ?_))
   refine vc_ifs rfl ?_ ?_
   ·
    intro hc22
    try simp only [dn] at hc22
    refine vc_code_skip (vq_then (vc_keep [(0, _), (4, _), (5, _)] ⟨rfl, rfl, rfl, trivial⟩ (vc_seq (vc_block (vc_seq (vc_region ?_))))))
    iterate 2 refine vc_y rfl rfl (y_mv rfl) ?_
    refine vc_y rfl rfl (y_ixs (k := j) rfl rfl underlying9 rfl (by omega)) ?_
    refine vc_y rfl rfl (y_subk rfl rfl (by rw [wrap_u8])) ?_
    refine vc_y rfl rfl (y_cvi rfl underlying105 underlying5 (by rw [wrap_u64])) ?_
    refine vc_y rfl rfl (y_as rfl) ?_
    refine vc_end (vq_then (vc_keep [(0, _), (4, _), (5, _), (6, _)] ⟨rfl, rfl, rfl, rfl, trivial⟩ (vc_seq (vc_seq (vc_region ?_)))))
    iterate 2 refine vc_y rfl rfl (y_mv rfl) ?_
    refine vc_y rfl rfl (y_ixs (k := j) rfl rfl underlying9 rfl (by omega)) ?_
    refine vc_e (e_call [_] rfl rfl call76 rfl (rdigit_any _ _) ?_)
    rintro _ w ⟨rfl, rfl⟩
    refine vc_y rfl rfl (y_not rfl) ?_
    refine vc_e (e_mvb rfl rfl rfl ?_ ?_)
    ·
     intro hg35
     try simp only [dn] at hg35
     iterate 5 refine vc_e (e_skip rfl rfl ?_)
     refine vc_y rfl rfl (y_pickt rfl rfl) ?_
     refine vc_end (vq_then (vc_keep [(0, _), (4, _), (5, _), (6, _), (41, _)] ⟨rfl, rfl, rfl, rfl, rfl, trivial⟩ ?_))
     refine vc_ift rfl ?_
     refine vc_seq (vc_region ?_)
     iterate 2 refine vc_y rfl rfl (y_as rfl) ?_
     refine vc_end (vq_then (vc_keep [(2, _), (3, _)] ⟨rfl, rfl, trivial⟩ (vc_ret (vq_then_ret (vq_block_ret (vq_then_ret (vq_then_ret (vq_block_ret (vq_then_ret ?_)))))))))
     refine vq_ret2 st (.inl rfl) results78 (.tmp rfl) (.tmp rfl) ?_
     refine ⟨_, rfl, ?_⟩
     refine ⟨?_, rfl⟩
     have fin : ∀ (a : Nat) (b : Bool), numR l = (a, b) → (Value.tuple [.int .i64 (a : Int), .bool b].toArray) = .tuple [.int .i64 ((numR l).1 : Int), .bool (numR l).2].toArray := fun a b h => by rw [h]
     first
     | (refine fin 0 false ?_; unfold numR; rw [if_pos (.inl (by assumption))])
     | (refine fin 0 false ?_; unfold numR; rw [if_pos (.inr (.inl ⟨by omega, u8_eq48 (by assumption)⟩))])
     | (refine fin 0 false ?_; unfold numR; rw [if_pos (.inr (.inr (.inl (all_no (m := j) (by omega) (by assumption)))))])
     | (refine fin 0 false ?_
        have h1 := numVal_step (l := l) (j := j) (by omega)
        have h2 := numVal_take_le l (j + 1)
        unfold numR; rw [if_pos (.inr (.inr (.inr (by omega))))])
     | (obtain rfl : j = l.length := by omega
        rw [List.take_length] at hn hall
        refine fin n true ?_
        unfold numR
        rw [if_neg, hn]
        rintro (h | ⟨h1, h2⟩ | h | h)
        · first | contradiction | (subst h; simp at *)
        · have h3 : ((l.getD 0 0).toNat : Int) = 48 := by rw [h2]; rfl
          first | contradiction | omega
        · rw [hall] at h; cases h
        · omega)
    ·
     intro hg35
     try simp only [dn] at hg35
     have hdg := digit_iff (by assumption)
     iterate 2 refine vc_y rfl rfl (y_mv rfl) ?_
     refine vc_y rfl rfl (y_subk rfl rfl (by rw [wrap_u64]; omega : _ = ((9223372036854775807 - ((l.getD j 0).toNat - 48) : Nat) : Int))) ?_
     refine vc_y rfl rfl (y_quok rfl rfl (by omega) (by omega) (by rw [wrap_u64]; omega : _ = (((9223372036854775807 - ((l.getD j 0).toNat - 48)) / 10 : Nat) : Int))) ?_
     refine vc_y rfl rfl (y_gtr rfl rfl) ?_
     refine vc_y rfl rfl (y_pickf rfl rfl) ?_
     refine vc_end (vq_then (vc_keep [(0, _), (4, _), (5, _), (6, _), (41, _)] ⟨rfl, rfl, rfl, rfl, rfl, trivial⟩ ?_))
     refine vc_ifs rfl ?_ ?_
     ·
      intro hc41
      try simp only [dn] at hc41
      refine vc_seq (vc_region ?_)
      iterate 2 refine vc_y rfl rfl (y_as rfl) ?_
      refine vc_end (vq_then (vc_keep [(2, _), (3, _)] ⟨rfl, rfl, trivial⟩ (vc_ret (vq_then_ret (vq_block_ret (vq_then_ret (vq_then_ret (vq_block_ret (vq_then_ret ?_)))))))))
      refine vq_ret2 st (.inl rfl) results78 (.tmp rfl) (.tmp rfl) ?_
      refine ⟨_, rfl, ?_⟩
      refine ⟨?_, rfl⟩
      have fin : ∀ (a : Nat) (b : Bool), numR l = (a, b) → (Value.tuple [.int .i64 (a : Int), .bool b].toArray) = .tuple [.int .i64 ((numR l).1 : Int), .bool (numR l).2].toArray := fun a b h => by rw [h]
      first
      | (refine fin 0 false ?_; unfold numR; rw [if_pos (.inl (by assumption))])
      | (refine fin 0 false ?_; unfold numR; rw [if_pos (.inr (.inl ⟨by omega, u8_eq48 (by assumption)⟩))])
      | (refine fin 0 false ?_; unfold numR; rw [if_pos (.inr (.inr (.inl (all_no (m := j) (by omega) (by assumption)))))])
      | (refine fin 0 false ?_
         have h1 := numVal_step (l := l) (j := j) (by omega)
         have h2 := numVal_take_le l (j + 1)
         unfold numR; rw [if_pos (.inr (.inr (.inr (by omega))))])
      | (obtain rfl : j = l.length := by omega
         rw [List.take_length] at hn hall
         refine fin n true ?_
         unfold numR
         rw [if_neg, hn]
         rintro (h | ⟨h1, h2⟩ | h | h)
         · first | contradiction | (subst h; simp at *)
         · have h3 : ((l.getD 0 0).toNat : Int) = 48 := by rw [h2]; rfl
           first | contradiction | omega
         · rw [hall] at h; cases h
         · omega)
     ·
      intro hc41
      try simp only [dn] at hc41
      refine vc_code_skip (vq_then (vc_keep [(0, _), (4, _), (5, _), (6, _)] ⟨rfl, rfl, rfl, rfl, trivial⟩ (vc_region ?_)))
      refine vc_y rfl rfl (y_mv rfl) ?_
      refine vc_y rfl rfl (y_mulk rfl rfl (by rw [wrap_u64]; omega : _ = ((10 * n : Nat) : Int))) ?_
      refine vc_y rfl rfl (y_mv rfl) ?_
      refine vc_y rfl rfl (y_addk rfl rfl (by rw [wrap_u64]; omega : _ = ((10 * n + ((l.getD j 0).toNat - 48) : Nat) : Int))) ?_
      refine vc_y rfl rfl (y_as rfl) ?_
      refine vc_end (vq_block (vq_then (vc_keep [(0, _), (4, _), (5, _)] ⟨rfl, rfl, rfl, trivial⟩ (vc_region ?_))))
      refine vc_y rfl rfl (y_mv rfl) ?_
      refine vc_y rfl rfl (y_add rfl rfl rfl (by omega) (by omega)) ?_
      refine vc_y rfl rfl (y_as rfl) ?_
      refine vc_end ?_
      refine vq_again (j + 1, 10 * n + ((l.getD j 0).toNat - 48)) ⟨rfl, rfl, rfl, trivial⟩ st ?_ ?_
      ·
       exact ⟨by dsimp only; omega, all_take_succ (by omega) hall (by assumption), by dsimp only; rw [numVal_step (by omega), ← hn], by dsimp only; omega, rfl⟩
      ·
       dsimp only; omega
   ·
    intro hc22
    try simp only [dn] at hc22
    refine vc_exit (vq_then_exit (vq_then_exit (vq_block_exit (vq_then (vc_keep [(4, _)] ⟨rfl, trivial⟩ (vc_seq (vc_region ?_)))))))
    refine vc_y rfl rfl (y_mv rfl) ?_
    refine vc_y rfl rfl (y_cvi rfl underlying2 underlying105 (IntWalk.i64_in _ ⟨by omega, by omega⟩ : _ = (n : Int))) ?_
    iterate 2 refine vc_y rfl rfl (y_as rfl) ?_
    refine vc_end (vq_then (vc_keep [(2, _), (3, _)] ⟨rfl, rfl, trivial⟩ (vc_ret ?_)))
    refine vq_ret2 st (.inl rfl) results78 (.tmp rfl) (.tmp rfl) ?_
    refine ⟨_, rfl, ?_⟩
    refine ⟨?_, rfl⟩
    have fin : ∀ (a : Nat) (b : Bool), numR l = (a, b) → (Value.tuple [.int .i64 (a : Int), .bool b].toArray) = .tuple [.int .i64 ((numR l).1 : Int), .bool (numR l).2].toArray := fun a b h => by rw [h]
    first
    | (refine fin 0 false ?_; unfold numR; rw [if_pos (.inl (by assumption))])
    | (refine fin 0 false ?_; unfold numR; rw [if_pos (.inr (.inl ⟨by omega, u8_eq48 (by assumption)⟩))])
    | (refine fin 0 false ?_; unfold numR; rw [if_pos (.inr (.inr (.inl (all_no (m := j) (by omega) (by assumption)))))])
    | (refine fin 0 false ?_
       have h1 := numVal_step (l := l) (j := j) (by omega)
       have h2 := numVal_take_le l (j + 1)
       unfold numR; rw [if_pos (.inr (.inr (.inr (by omega))))])
    | (obtain rfl : j = l.length := by omega
       rw [List.take_length] at hn hall
       refine fin n true ?_
       unfold numR
       rw [if_neg, hn]
       rintro (h | ⟨h1, h2⟩ | h | h)
       · first | contradiction | (subst h; simp at *)
       · have h3 : ((l.getD 0 0).toNat : Int) = 48 := by rw [h2]; rfl
         first | contradiction | omega
       · rw [hall] at h; cases h
       · omega)

end Go.Proofs.YtggnfanphcaamaaGreatDoor

