/- A part of the proof: contracts of functions and plain laws; each theorem says its own conditions. -/
import Derived.Test.YtnmhlpnapgojjaaGreatDoorPrettyNamesK1
import Derived.Test.YtnmhlpnapgojjaaGreatDoorPrettyNamesK0
set_option linter.unusedVariables false
set_option linter.unusedSimpArgs false
namespace Go.Proofs.YtnmhlpnapgojjaaGreatDoor
open Go.RowKit Sx LexS _root_.Go.Proofs.Tryz

set_option maxHeartbeats 1000000 in
theorem word_any (l : List UInt8) (w : World) : Ret Tryz.prog 114 [str l] w fun v w' => v = .bool (isWord l) ∧ w' = w := by
 refine ret_of [_] func114 rfl ntmps114 rfl ?_
 have st := St.init w []
 refine vc_seq (vc_region ?_)
 refine ya ?_
 refine vc_end (vq_then (vk1 0 (vc_seq (vc_seq (vc_region ?_)))))
 refine ym ?_
 refine vc_end (vq_then (vk1 3 (vc_block (vc_seq (vc_seq (vc_region ?_))))))
 refine vy (y_eqs rfl rfl) ?_
 refine ya ?_
 refine vc_end (vq_then (vk2 3 4 ?_))
 refine vc_ifs rfl ?_ ?_
 ·intro hc4
  try simp only [dn] at hc4
  refine vc_code_skip (vq_then (vk1 4 ?_))
  refine vc_ift rfl ?_
  refine vc_seq (vc_region ?_)
  refine ya ?_
  refine vc_end (vq_then (vk1 2 (vc_ret (vq_block_ret (vq_then_ret ?_)))))
  refine vq_ret1 st (.inl rfl) results114 (.tmp rfl) ?_
  refine ⟨_, rfl, ?_⟩
  refine ⟨?_, rfl⟩
  rw [Value.bool.injEq]
  (symm; simp only [isWord, decide_eq_true_eq]; simp only [wShared, wLock, wThread, wLocal, wIf, wElse, wWhile, wPrint, wSkip, wSwap]; simp only [*, true_or, or_true]; done)
 ·intro hc4
  try simp only [dn] at hc4
  refine vc_seq (vc_region ?_)
  refine vy (y_eqs rfl rfl) ?_
  refine ya ?_
  refine vc_end (vq_then (vk2 3 4 ?_))
  refine vc_ifs rfl ?_ ?_
  ·intro hc4
   try simp only [dn] at hc4
   refine vc_code_skip (vq_then (vk1 4 ?_))
   refine vc_ift rfl ?_
   refine vc_seq (vc_region ?_)
   refine ya ?_
   refine vc_end (vq_then (vk1 2 (vc_ret (vq_block_ret (vq_then_ret ?_)))))
   refine vq_ret1 st (.inl rfl) results114 (.tmp rfl) ?_
   refine ⟨_, rfl, ?_⟩
   refine ⟨?_, rfl⟩
   rw [Value.bool.injEq]
   (symm; simp only [isWord, decide_eq_true_eq]; simp only [wShared, wLock, wThread, wLocal, wIf, wElse, wWhile, wPrint, wSkip, wSwap]; simp only [*, true_or, or_true]; done)
  ·intro hc4
   try simp only [dn] at hc4
   refine vc_seq (vc_region ?_)
   refine vy (y_eqs rfl rfl) ?_
   refine ya ?_
   refine vc_end (vq_then (vk2 3 4 ?_))
   refine vc_ifs rfl ?_ ?_
   ·intro hc4
    try simp only [dn] at hc4
    refine vc_code_skip (vq_then (vk1 4 ?_))
    refine vc_ift rfl ?_
    refine vc_seq (vc_region ?_)
    refine ya ?_
    refine vc_end (vq_then (vk1 2 (vc_ret (vq_block_ret (vq_then_ret ?_)))))
    refine vq_ret1 st (.inl rfl) results114 (.tmp rfl) ?_
    refine ⟨_, rfl, ?_⟩
    refine ⟨?_, rfl⟩
    rw [Value.bool.injEq]
    (symm; simp only [isWord, decide_eq_true_eq]; simp only [wShared, wLock, wThread, wLocal, wIf, wElse, wWhile, wPrint, wSkip, wSwap]; simp only [*, true_or, or_true]; done)
   ·intro hc4
    try simp only [dn] at hc4
    refine vc_seq (vc_region ?_)
    refine vy (y_eqs rfl rfl) ?_
    refine ya ?_
    refine vc_end (vq_then (vk2 3 4 ?_))
    refine vc_ifs rfl ?_ ?_
    ·intro hc4
     try simp only [dn] at hc4
     refine vc_code_skip (vq_then (vk1 4 ?_))
     refine vc_ift rfl ?_
     refine vc_seq (vc_region ?_)
     refine ya ?_
     refine vc_end (vq_then (vk1 2 (vc_ret (vq_block_ret (vq_then_ret ?_)))))
     refine vq_ret1 st (.inl rfl) results114 (.tmp rfl) ?_
     refine ⟨_, rfl, ?_⟩
     refine ⟨?_, rfl⟩
     rw [Value.bool.injEq]
     (symm; simp only [isWord, decide_eq_true_eq]; simp only [wShared, wLock, wThread, wLocal, wIf, wElse, wWhile, wPrint, wSkip, wSwap]; simp only [*, true_or, or_true]; done)
    ·intro hc4
     try simp only [dn] at hc4
     refine vc_seq (vc_region ?_)
     refine vy (y_eqs rfl rfl) ?_
     refine ya ?_
     refine vc_end (vq_then (vk2 3 4 ?_))
     refine vc_ifs rfl ?_ ?_
     ·intro hc4
      try simp only [dn] at hc4
      refine vc_code_skip (vq_then (vk1 4 ?_))
      refine vc_ift rfl ?_
      refine vc_seq (vc_region ?_)
      refine ya ?_
      refine vc_end (vq_then (vk1 2 (vc_ret (vq_block_ret (vq_then_ret ?_)))))
      refine vq_ret1 st (.inl rfl) results114 (.tmp rfl) ?_
      refine ⟨_, rfl, ?_⟩
      refine ⟨?_, rfl⟩
      rw [Value.bool.injEq]
      (symm; simp only [isWord, decide_eq_true_eq]; simp only [wShared, wLock, wThread, wLocal, wIf, wElse, wWhile, wPrint, wSkip, wSwap]; simp only [*, true_or, or_true]; done)
     ·intro hc4
      try simp only [dn] at hc4
      refine vc_seq (vc_region ?_)
      refine vy (y_eqs rfl rfl) ?_
      refine ya ?_
      refine vc_end (vq_then (vk2 3 4 ?_))
      refine vc_ifs rfl ?_ ?_
      ·intro hc4
       try simp only [dn] at hc4
       refine vc_code_skip (vq_then (vk1 4 ?_))
       refine vc_ift rfl ?_
       refine vc_seq (vc_region ?_)
       refine ya ?_
       refine vc_end (vq_then (vk1 2 (vc_ret (vq_block_ret (vq_then_ret ?_)))))
       refine vq_ret1 st (.inl rfl) results114 (.tmp rfl) ?_
       refine ⟨_, rfl, ?_⟩
       refine ⟨?_, rfl⟩
       rw [Value.bool.injEq]
       (symm; simp only [isWord, decide_eq_true_eq]; simp only [wShared, wLock, wThread, wLocal, wIf, wElse, wWhile, wPrint, wSkip, wSwap]; simp only [*, true_or, or_true]; done)
      ·intro hc4
       try simp only [dn] at hc4
       refine vc_seq (vc_region ?_)
       refine vy (y_eqs rfl rfl) ?_
       refine ya ?_
       refine vc_end (vq_then (vk2 3 4 ?_))
       refine vc_ifs rfl ?_ ?_
       ·intro hc4
        try simp only [dn] at hc4
        refine vc_code_skip (vq_then (vk1 4 ?_))
        refine vc_ift rfl ?_
        refine vc_seq (vc_region ?_)
        refine ya ?_
        refine vc_end (vq_then (vk1 2 (vc_ret (vq_block_ret (vq_then_ret ?_)))))
        refine vq_ret1 st (.inl rfl) results114 (.tmp rfl) ?_
        refine ⟨_, rfl, ?_⟩
        refine ⟨?_, rfl⟩
        rw [Value.bool.injEq]
        (symm; simp only [isWord, decide_eq_true_eq]; simp only [wShared, wLock, wThread, wLocal, wIf, wElse, wWhile, wPrint, wSkip, wSwap]; simp only [*, true_or, or_true]; done)
       ·intro hc4
        try simp only [dn] at hc4
        refine vc_seq (vc_region ?_)
        refine vy (y_eqs rfl rfl) ?_
        refine ya ?_
        refine vc_end (vq_then (vk2 3 4 ?_))
        refine vc_ifs rfl ?_ ?_
        ·intro hc4
         try simp only [dn] at hc4
         refine vc_code_skip (vq_then (vk1 4 ?_))
         refine vc_ift rfl ?_
         refine vc_seq (vc_region ?_)
         refine ya ?_
         refine vc_end (vq_then (vk1 2 (vc_ret (vq_block_ret (vq_then_ret ?_)))))
         refine vq_ret1 st (.inl rfl) results114 (.tmp rfl) ?_
         refine ⟨_, rfl, ?_⟩
         refine ⟨?_, rfl⟩
         rw [Value.bool.injEq]
         (symm; simp only [isWord, decide_eq_true_eq]; simp only [wShared, wLock, wThread, wLocal, wIf, wElse, wWhile, wPrint, wSkip, wSwap]; simp only [*, true_or, or_true]; done)
        ·intro hc4
         try simp only [dn] at hc4
         refine vc_seq (vc_region ?_)
         refine vy (y_eqs rfl rfl) ?_
         refine ya ?_
         refine vc_end (vq_then (vk2 3 4 ?_))
         refine vc_ifs rfl ?_ ?_
         ·intro hc4
          try simp only [dn] at hc4
          refine vc_code_skip (vq_then (vk1 4 ?_))
          refine vc_ift rfl ?_
          refine vc_seq (vc_region ?_)
          refine ya ?_
          refine vc_end (vq_then (vk1 2 (vc_ret (vq_block_ret (vq_then_ret ?_)))))
          refine vq_ret1 st (.inl rfl) results114 (.tmp rfl) ?_
          refine ⟨_, rfl, ?_⟩
          refine ⟨?_, rfl⟩
          rw [Value.bool.injEq]
          (symm; simp only [isWord, decide_eq_true_eq]; simp only [wShared, wLock, wThread, wLocal, wIf, wElse, wWhile, wPrint, wSkip, wSwap]; simp only [*, true_or, or_true]; done)
         ·intro hc4
          try simp only [dn] at hc4
          refine vc_region ?_
          refine vy (y_eqs rfl rfl) ?_
          refine ya ?_
          refine vc_end (vq_then (vk1 4 ?_))
          refine vc_ifs rfl ?_ ?_
          ·intro hc4
           try simp only [dn] at hc4
           refine vc_seq (vc_region ?_)
           refine ya ?_
           refine vc_end (vq_then (vk1 2 (vc_ret (vq_block_ret (vq_then_ret ?_)))))
           refine vq_ret1 st (.inl rfl) results114 (.tmp rfl) ?_
           refine ⟨_, rfl, ?_⟩
           refine ⟨?_, rfl⟩
           rw [Value.bool.injEq]
           (symm; simp only [isWord, decide_eq_true_eq]; simp only [wShared, wLock, wThread, wLocal, wIf, wElse, wWhile, wPrint, wSkip, wSwap]; simp only [*, true_or, or_true]; done)
          ·intro hc4
           try simp only [dn] at hc4
           refine vc_code_skip (vq_block (vq_then (vc_keep [] trivial (vc_seq (vc_region ?_)))))
           refine ya ?_
           refine vc_end (vq_then (vk1 2 (vc_ret ?_)))
           refine vq_ret1 st (.inl rfl) results114 (.tmp rfl) ?_
           refine ⟨_, rfl, ?_⟩
           refine ⟨?_, rfl⟩
           rw [Value.bool.injEq]
           (symm; simp only [isWord, decide_eq_false_iff_not]; simp only [wShared, wLock, wThread, wLocal, wIf, wElse, wWhile, wPrint, wSkip, wSwap]; simp only [*, or_self, not_false_eq_true])

set_option maxHeartbeats 1000000 in
theorem rword_any (l : List UInt8) (w : World) : Ret Tryz.prog 124 [str l] w fun v w' => v = .bool (isWord l) ∧ w' = w := by
 refine ret_of [_] func124 rfl ntmps124 rfl ?_
 have st := St.init w []
 refine vc_seq (vc_region ?_)
 refine ya ?_
 refine vc_end (vq_then (vk1 0 (vc_seq (vc_seq (vc_region ?_)))))
 refine ym ?_
 refine vc_end (vq_then (vk1 3 (vc_block (vc_seq (vc_seq (vc_region ?_))))))
 refine vy (y_eqs rfl rfl) ?_
 refine ya ?_
 refine vc_end (vq_then (vk2 3 4 ?_))
 refine vc_ifs rfl ?_ ?_
 ·intro hc4
  try simp only [dn] at hc4
  refine vc_code_skip (vq_then (vk1 4 ?_))
  refine vc_ift rfl ?_
  refine vc_seq (vc_region ?_)
  refine ya ?_
  refine vc_end (vq_then (vk1 2 (vc_ret (vq_block_ret (vq_then_ret ?_)))))
  refine vq_ret1 st (.inl rfl) results124 (.tmp rfl) ?_
  refine ⟨_, rfl, ?_⟩
  refine ⟨?_, rfl⟩
  rw [Value.bool.injEq]
  (symm; simp only [isWord, decide_eq_true_eq]; simp only [wShared, wLock, wThread, wLocal, wIf, wElse, wWhile, wPrint, wSkip, wSwap]; simp only [*, true_or, or_true]; done)
 ·intro hc4
  try simp only [dn] at hc4
  refine vc_seq (vc_region ?_)
  refine vy (y_eqs rfl rfl) ?_
  refine ya ?_
  refine vc_end (vq_then (vk2 3 4 ?_))
  refine vc_ifs rfl ?_ ?_
  ·intro hc4
   try simp only [dn] at hc4
   refine vc_code_skip (vq_then (vk1 4 ?_))
   refine vc_ift rfl ?_
   refine vc_seq (vc_region ?_)
   refine ya ?_
   refine vc_end (vq_then (vk1 2 (vc_ret (vq_block_ret (vq_then_ret ?_)))))
   refine vq_ret1 st (.inl rfl) results124 (.tmp rfl) ?_
   refine ⟨_, rfl, ?_⟩
   refine ⟨?_, rfl⟩
   rw [Value.bool.injEq]
   (symm; simp only [isWord, decide_eq_true_eq]; simp only [wShared, wLock, wThread, wLocal, wIf, wElse, wWhile, wPrint, wSkip, wSwap]; simp only [*, true_or, or_true]; done)
  ·intro hc4
   try simp only [dn] at hc4
   refine vc_seq (vc_region ?_)
   refine vy (y_eqs rfl rfl) ?_
   refine ya ?_
   refine vc_end (vq_then (vk2 3 4 ?_))
   refine vc_ifs rfl ?_ ?_
   ·intro hc4
    try simp only [dn] at hc4
    refine vc_code_skip (vq_then (vk1 4 ?_))
    refine vc_ift rfl ?_
    refine vc_seq (vc_region ?_)
    refine ya ?_
    refine vc_end (vq_then (vk1 2 (vc_ret (vq_block_ret (vq_then_ret ?_)))))
    refine vq_ret1 st (.inl rfl) results124 (.tmp rfl) ?_
    refine ⟨_, rfl, ?_⟩
    refine ⟨?_, rfl⟩
    rw [Value.bool.injEq]
    (symm; simp only [isWord, decide_eq_true_eq]; simp only [wShared, wLock, wThread, wLocal, wIf, wElse, wWhile, wPrint, wSkip, wSwap]; simp only [*, true_or, or_true]; done)
   ·intro hc4
    try simp only [dn] at hc4
    refine vc_seq (vc_region ?_)
    refine vy (y_eqs rfl rfl) ?_
    refine ya ?_
    refine vc_end (vq_then (vk2 3 4 ?_))
    refine vc_ifs rfl ?_ ?_
    ·intro hc4
     try simp only [dn] at hc4
     refine vc_code_skip (vq_then (vk1 4 ?_))
     refine vc_ift rfl ?_
     refine vc_seq (vc_region ?_)
     refine ya ?_
     refine vc_end (vq_then (vk1 2 (vc_ret (vq_block_ret (vq_then_ret ?_)))))
     refine vq_ret1 st (.inl rfl) results124 (.tmp rfl) ?_
     refine ⟨_, rfl, ?_⟩
     refine ⟨?_, rfl⟩
     rw [Value.bool.injEq]
     (symm; simp only [isWord, decide_eq_true_eq]; simp only [wShared, wLock, wThread, wLocal, wIf, wElse, wWhile, wPrint, wSkip, wSwap]; simp only [*, true_or, or_true]; done)
    ·intro hc4
     try simp only [dn] at hc4
     refine vc_seq (vc_region ?_)
     refine vy (y_eqs rfl rfl) ?_
     refine ya ?_
     refine vc_end (vq_then (vk2 3 4 ?_))
     refine vc_ifs rfl ?_ ?_
     ·intro hc4
      try simp only [dn] at hc4
      refine vc_code_skip (vq_then (vk1 4 ?_))
      refine vc_ift rfl ?_
      refine vc_seq (vc_region ?_)
      refine ya ?_
      refine vc_end (vq_then (vk1 2 (vc_ret (vq_block_ret (vq_then_ret ?_)))))
      refine vq_ret1 st (.inl rfl) results124 (.tmp rfl) ?_
      refine ⟨_, rfl, ?_⟩
      refine ⟨?_, rfl⟩
      rw [Value.bool.injEq]
      (symm; simp only [isWord, decide_eq_true_eq]; simp only [wShared, wLock, wThread, wLocal, wIf, wElse, wWhile, wPrint, wSkip, wSwap]; simp only [*, true_or, or_true]; done)
     ·intro hc4
      try simp only [dn] at hc4
      refine vc_seq (vc_region ?_)
      refine vy (y_eqs rfl rfl) ?_
      refine ya ?_
      refine vc_end (vq_then (vk2 3 4 ?_))
      refine vc_ifs rfl ?_ ?_
      ·intro hc4
       try simp only [dn] at hc4
       refine vc_code_skip (vq_then (vk1 4 ?_))
       refine vc_ift rfl ?_
       refine vc_seq (vc_region ?_)
       refine ya ?_
       refine vc_end (vq_then (vk1 2 (vc_ret (vq_block_ret (vq_then_ret ?_)))))
       refine vq_ret1 st (.inl rfl) results124 (.tmp rfl) ?_
       refine ⟨_, rfl, ?_⟩
       refine ⟨?_, rfl⟩
       rw [Value.bool.injEq]
       (symm; simp only [isWord, decide_eq_true_eq]; simp only [wShared, wLock, wThread, wLocal, wIf, wElse, wWhile, wPrint, wSkip, wSwap]; simp only [*, true_or, or_true]; done)
      ·intro hc4
       try simp only [dn] at hc4
       refine vc_seq (vc_region ?_)
       refine vy (y_eqs rfl rfl) ?_
       refine ya ?_
       refine vc_end (vq_then (vk2 3 4 ?_))
       refine vc_ifs rfl ?_ ?_
       ·intro hc4
        try simp only [dn] at hc4
        refine vc_code_skip (vq_then (vk1 4 ?_))
        refine vc_ift rfl ?_
        refine vc_seq (vc_region ?_)
        refine ya ?_
        refine vc_end (vq_then (vk1 2 (vc_ret (vq_block_ret (vq_then_ret ?_)))))
        refine vq_ret1 st (.inl rfl) results124 (.tmp rfl) ?_
        refine ⟨_, rfl, ?_⟩
        refine ⟨?_, rfl⟩
        rw [Value.bool.injEq]
        (symm; simp only [isWord, decide_eq_true_eq]; simp only [wShared, wLock, wThread, wLocal, wIf, wElse, wWhile, wPrint, wSkip, wSwap]; simp only [*, true_or, or_true]; done)
       ·intro hc4
        try simp only [dn] at hc4
        refine vc_seq (vc_region ?_)
        refine vy (y_eqs rfl rfl) ?_
        refine ya ?_
        refine vc_end (vq_then (vk2 3 4 ?_))
        refine vc_ifs rfl ?_ ?_
        ·intro hc4
         try simp only [dn] at hc4
         refine vc_code_skip (vq_then (vk1 4 ?_))
         refine vc_ift rfl ?_
         refine vc_seq (vc_region ?_)
         refine ya ?_
         refine vc_end (vq_then (vk1 2 (vc_ret (vq_block_ret (vq_then_ret ?_)))))
         refine vq_ret1 st (.inl rfl) results124 (.tmp rfl) ?_
         refine ⟨_, rfl, ?_⟩
         refine ⟨?_, rfl⟩
         rw [Value.bool.injEq]
         (symm; simp only [isWord, decide_eq_true_eq]; simp only [wShared, wLock, wThread, wLocal, wIf, wElse, wWhile, wPrint, wSkip, wSwap]; simp only [*, true_or, or_true]; done)
        ·intro hc4
         try simp only [dn] at hc4
         refine vc_seq (vc_region ?_)
         refine vy (y_eqs rfl rfl) ?_
         refine ya ?_
         refine vc_end (vq_then (vk2 3 4 ?_))
         refine vc_ifs rfl ?_ ?_
         ·intro hc4
          try simp only [dn] at hc4
          refine vc_code_skip (vq_then (vk1 4 ?_))
          refine vc_ift rfl ?_
          refine vc_seq (vc_region ?_)
          refine ya ?_
          refine vc_end (vq_then (vk1 2 (vc_ret (vq_block_ret (vq_then_ret ?_)))))
          refine vq_ret1 st (.inl rfl) results124 (.tmp rfl) ?_
          refine ⟨_, rfl, ?_⟩
          refine ⟨?_, rfl⟩
          rw [Value.bool.injEq]
          (symm; simp only [isWord, decide_eq_true_eq]; simp only [wShared, wLock, wThread, wLocal, wIf, wElse, wWhile, wPrint, wSkip, wSwap]; simp only [*, true_or, or_true]; done)
         ·intro hc4
          try simp only [dn] at hc4
          refine vc_region ?_
          refine vy (y_eqs rfl rfl) ?_
          refine ya ?_
          refine vc_end (vq_then (vk1 4 ?_))
          refine vc_ifs rfl ?_ ?_
          ·intro hc4
           try simp only [dn] at hc4
           refine vc_seq (vc_region ?_)
           refine ya ?_
           refine vc_end (vq_then (vk1 2 (vc_ret (vq_block_ret (vq_then_ret ?_)))))
           refine vq_ret1 st (.inl rfl) results124 (.tmp rfl) ?_
           refine ⟨_, rfl, ?_⟩
           refine ⟨?_, rfl⟩
           rw [Value.bool.injEq]
           (symm; simp only [isWord, decide_eq_true_eq]; simp only [wShared, wLock, wThread, wLocal, wIf, wElse, wWhile, wPrint, wSkip, wSwap]; simp only [*, true_or, or_true]; done)
          ·intro hc4
           try simp only [dn] at hc4
           refine vc_code_skip (vq_block (vq_then (vc_keep [] trivial (vc_seq (vc_region ?_)))))
           refine ya ?_
           refine vc_end (vq_then (vk1 2 (vc_ret ?_)))
           refine vq_ret1 st (.inl rfl) results124 (.tmp rfl) ?_
           refine ⟨_, rfl, ?_⟩
           refine ⟨?_, rfl⟩
           rw [Value.bool.injEq]
           (symm; simp only [isWord, decide_eq_false_iff_not]; simp only [wShared, wLock, wThread, wLocal, wIf, wElse, wWhile, wPrint, wSkip, wSwap]; simp only [*, or_self, not_false_eq_true])

end Go.Proofs.YtnmhlpnapgojjaaGreatDoor


namespace Go.Proofs.YtnmhlpnapgojjaaGreatDoor
open Go.RowKit Sx LexS _root_.Go.Proofs.Tryz
theorem isName_eq {l : List UInt8} (h0 : l ≠ []) (h1 : l.length ≤ 32) (h2 : isDigit (l.getD 0 0) = false) (h3 : isWord l = false) : isName l = l.all isIdent := by
 match l, h0 with
 | c :: r, _ => simp at h2 h1; simp [isName, h2, h3, h1]
theorem isName_nil {l : List UInt8} (h : l = []) : isName l = false := by subst h; rfl
theorem isName_long {l : List UInt8} (h : 32 < l.length) : isName l = false := by
 match l, h with
 | c :: r, h => simp only [isName]; rw [show decide ((c :: r).length ≤ 32) = false from by simp only [decide_eq_false_iff_not]; omega]; simp
theorem isName_digit {l : List UInt8} (h : isDigit (l.getD 0 0) = true) : isName l = false := by
 match l with
 | [] => rfl
 | c :: r => simp at h; simp [isName, h]
theorem isName_word {l : List UInt8} (h : isWord l = true) : isName l = false := by
 match l with
 | [] => rfl
 | c :: r => simp [isName, h]
theorem all_take_succ {p : UInt8 → Bool} {l : List UInt8} {m : Nat} (hm : m < l.length) (h : (l.take m).all p = true) (hp : p (l.getD m 0) = true) : (l.take (m + 1)).all p = true := by
 rw [List.take_add_one]
 have : l[m]? = some (l.getD m 0) := by simp [List.getD, hm]
 rw [this]
 simp only [List.all_append, h, Option.toList_some, List.all_cons, hp, List.all_nil, Bool.and_self]
theorem all_no {p : UInt8 → Bool} {l : List UInt8} {m : Nat} (hm : m < l.length) (hp : p (l.getD m 0) = false) : l.all p = false := by
 rw [List.all_eq_false]
 refine ⟨l.getD m 0, ?_, by rw [hp]; simp⟩
 rw [show l.getD m 0 = l[m] from by simp [List.getD, hm]]
 exact List.getElem_mem hm
set_option maxHeartbeats 1000000 in
theorem name_any (l : List UInt8) (w : World) : Ret Tryz.prog 52 [str l] w fun v w' => v = .bool (isName l) ∧ w' = w := by
 refine ret_of [_] func52 rfl ntmps52 rfl ?_
 have st := St.init w []
 refine vc_seq (vc_region ?_)
 refine ya ?_
 refine vc_end (vq_then (vk1 0 (vc_seq (vc_seq (vc_region ?_)))))
 refine ym ?_
 refine vy (y_eqs rfl rfl) ?_
 refine vmb ?_ ?_
 ·intro hg6
  try simp only [dn] at hg6
  iterate 3 refine vsk ?_
  refine ypt ?_
  refine ym ?_
  iterate 3 refine vsk ?_
  refine ypt ?_
  refine ym ?_
  iterate 2 refine vsk ?_
  refine ypt ?_
  refine vc_end (vq_then (vk2 0 19 ?_))
  refine vc_ift rfl ?_
  refine vc_seq (vc_region ?_)
  refine ya ?_
  refine vc_end (vq_then (vk1 2 (vc_ret (vq_then_ret ?_))))
  refine vq_ret1 st (.inl rfl) results52 (.tmp rfl) ?_
  refine ⟨_, rfl, ?_⟩
  refine ⟨?_, rfl⟩
  rw [Value.bool.injEq]
  (symm; apply isName_nil; assumption)
 ·intro hg6
  try simp only [dn] at hg6
  refine ym ?_
  refine vy (y_lens rfl underlying9) ?_
  refine vy (y_gtr rfl rfl) ?_
  refine ypf ?_
  refine vmb ?_ ?_
  ·intro hg11
   try simp only [dn] at hg11
   iterate 3 refine vsk ?_
   refine ypt ?_
   refine ym ?_
   iterate 2 refine vsk ?_
   refine ypt ?_
   refine vc_end (vq_then (vk2 0 19 ?_))
   refine vc_ift rfl ?_
   refine vc_seq (vc_region ?_)
   refine ya ?_
   refine vc_end (vq_then (vk1 2 (vc_ret (vq_then_ret ?_))))
   refine vq_ret1 st (.inl rfl) results52 (.tmp rfl) ?_
   refine ⟨_, rfl, ?_⟩
   refine ⟨?_, rfl⟩
   rw [Value.bool.injEq]
   (symm; apply isName_long; omega)
  ·intro hg11
   try simp only [dn] at hg11
   refine ym ?_
   refine vy (y_ixs (k := 0) rfl rfl underlying9 rfl (by (rcases l with _ | ⟨_, _⟩ <;> simp at * ))) ?_
   refine vc_e (e_call [_] rfl rfl call113 rfl (digit_any _ _) ?_)
   rintro _ w ⟨rfl, rfl⟩
   refine ypf ?_
   refine vmb ?_ ?_
   ·intro hg16
    try simp only [dn] at hg16
    iterate 2 refine vsk ?_
    refine ypt ?_
    refine vc_end (vq_then (vk2 0 19 ?_))
    refine vc_ift rfl ?_
    refine vc_seq (vc_region ?_)
    refine ya ?_
    refine vc_end (vq_then (vk1 2 (vc_ret (vq_then_ret ?_))))
    refine vq_ret1 st (.inl rfl) results52 (.tmp rfl) ?_
    refine ⟨_, rfl, ?_⟩
    refine ⟨?_, rfl⟩
    rw [Value.bool.injEq]
    (symm; apply isName_digit; assumption)
   ·intro hg16
    try simp only [dn] at hg16
    refine ym ?_
    refine vc_e (e_call [_] rfl rfl call114 rfl (word_any _ _) ?_)
    rintro _ w ⟨rfl, rfl⟩
    refine ypf ?_
    refine vc_end (vq_then (vk2 0 19 ?_))
    refine vc_ifs rfl ?_ ?_
    ·intro hc19
     try simp only [dn] at hc19
     refine vc_seq (vc_region ?_)
     refine ya ?_
     refine vc_end (vq_then (vk1 2 (vc_ret (vq_then_ret ?_))))
     refine vq_ret1 st (.inl rfl) results52 (.tmp rfl) ?_
     refine ⟨_, rfl, ?_⟩
     refine ⟨?_, rfl⟩
     rw [Value.bool.injEq]
     (symm; apply isName_word; assumption)
    ·intro hc19
     try simp only [dn] at hc19
     refine vc_code_skip (vq_then (vk1 0 (vc_seq (vc_seq (vc_region ?_)))))
     refine ym ?_
     refine vy (y_lens rfl underlying9) ?_
     refine ym ?_
     refine vc_end (vq_then (vk3 0 21 22 (vc_block ?_)))
     refine vc_loop (w0 := _) (M := _) (fun (m : Nat) => [(0, str l), (21, .int .i64 (l.length : Int)), (22, .int .i64 (m : Int))]) (fun _ => []) (fun m w' => m ≤ l.length ∧ (l.take m).all isIdent = true ∧ w' = w) (fun m => l.length - m) 0 ⟨rfl, rfl, rfl, trivial⟩ st ⟨by omega, by simp, rfl⟩ ?_
     rintro m w' ⟨hm, hall, rfl⟩ st
     refine vc_seq (vc_region ?_)
     refine vy (y_lss rfl rfl) ?_
     refine vc_end (vq_then (vk4 0 21 22 23 (vc_seq ?_)))
     refine vc_ifs rfl ?_ ?_
     ·intro hc23
      try simp only [dn] at hc23
      refine vc_code_skip (vq_then (vk3 0 21 22 (vc_seq (vc_block (vc_seq (vc_region ?_))))))
      refine ym ?_
      refine ya ?_
      refine vc_end (vq_then (vk4 0 3 21 22 (vc_seq (vc_region ?_))))
      iterate 2 refine ym ?_
      refine vy (y_ixs (k := _) rfl rfl underlying9 rfl (by omega)) ?_
      refine vc_e (e_call [_] rfl rfl call115 rfl (letter_any _ _) ?_)
      rintro _ w ⟨rfl, rfl⟩
      refine vy (y_not rfl) ?_
      refine vmb ?_ ?_
      ·intro hg30
       try simp only [dn] at hg30
       iterate 2 refine ym ?_
       refine vy (y_ixs (k := _) rfl rfl underlying9 rfl (by omega)) ?_
       refine vc_e (e_call [_] rfl rfl call113 rfl (digit_any _ _) ?_)
       rintro _ w ⟨rfl, rfl⟩
       refine vy (y_not rfl) ?_
       refine ypt ?_
       refine vc_end (vq_then (vk4 0 21 22 36 ?_))
       refine vc_ifs rfl ?_ ?_
       ·intro hc36
        try simp only [dn] at hc36
        refine vc_seq (vc_region ?_)
        refine ya ?_
        refine vc_end (vq_then (vk1 2 (vc_ret (vq_block_ret (vq_then_ret (vq_then_ret (vq_block_ret (vq_then_ret ?_))))))))
        refine vq_ret1 st (.inl rfl) results52 (.tmp rfl) ?_
        refine ⟨_, rfl, ?_⟩
        refine ⟨?_, rfl⟩
        rw [Value.bool.injEq]
        (symm; rw [isName_eq (by assumption) (by omega) (by assumption) (by assumption)]; exact all_no (m := m) (by omega) (by simp only [isIdent, *, Bool.or_true, Bool.true_or, Bool.or_self]))
       ·intro hc36
        try simp only [dn] at hc36
        refine vc_code_skip (vq_block (vq_then (vk3 0 21 22 (vc_region ?_))))
        refine vy (y_add rfl rfl rfl (by omega) (by omega)) ?_
        refine ym ?_
        refine vc_end ?_
        refine vq_again (m + 1) ⟨rfl, rfl, rfl, trivial⟩ st ?_ ?_
        ·exact ⟨by omega, all_take_succ (by omega) hall (by simp only [isIdent, *, Bool.or_true, Bool.true_or, Bool.or_self]), rfl⟩
        ·omega
      ·intro hg30
       try simp only [dn] at hg30
       iterate 5 refine vsk ?_
       refine ypf ?_
       refine vc_end (vq_then (vk4 0 21 22 36 ?_))
       refine vc_iff rfl ?_
       refine vc_code_skip (vq_block (vq_then (vk3 0 21 22 (vc_region ?_))))
       refine vy (y_add rfl rfl rfl (by omega) (by omega)) ?_
       refine ym ?_
       refine vc_end ?_
       refine vq_again (m + 1) ⟨rfl, rfl, rfl, trivial⟩ st ?_ ?_
       ·exact ⟨by omega, all_take_succ (by omega) hall (by simp only [isIdent, *, Bool.or_true, Bool.true_or, Bool.or_self]), rfl⟩
       ·omega
     ·intro hc23
      try simp only [dn] at hc23
      refine vc_exit (vq_then_exit (vq_then_exit (vq_block_exit (vq_then (vc_keep [] trivial (vc_seq (vc_region ?_)))))))
      refine ya ?_
      refine vc_end (vq_then (vk1 2 (vc_ret ?_)))
      refine vq_ret1 st (.inl rfl) results52 (.tmp rfl) ?_
      refine ⟨_, rfl, ?_⟩
      refine ⟨?_, rfl⟩
      rw [Value.bool.injEq]
      (symm; rw [isName_eq (by assumption) (by omega) (by assumption) (by assumption)]; rw [List.take_of_length_le (by omega)] at hall; exact hall)

set_option maxHeartbeats 1000000 in
theorem rname_any (l : List UInt8) (w : World) : Ret Tryz.prog 58 [str l] w fun v w' => v = .bool (isName l) ∧ w' = w := by
 refine ret_of [_] func58 rfl ntmps58 rfl ?_
 have st := St.init w []
 refine vc_seq (vc_region ?_)
 refine ya ?_
 refine vc_end (vq_then (vk1 0 (vc_seq (vc_seq (vc_region ?_)))))
 refine ym ?_
 refine vy (y_lens rfl underlying9) ?_
 refine vy (y_lss rfl rfl) ?_
 refine vmb ?_ ?_
 ·intro hg7
  try simp only [dn] at hg7
  iterate 3 refine vsk ?_
  refine ypt ?_
  refine ym ?_
  iterate 3 refine vsk ?_
  refine ypt ?_
  refine ym ?_
  iterate 2 refine vsk ?_
  refine ypt ?_
  refine vc_end (vq_then (vk2 0 20 ?_))
  refine vc_ift rfl ?_
  refine vc_seq (vc_region ?_)
  refine ya ?_
  refine vc_end (vq_then (vk1 2 (vc_ret (vq_then_ret ?_))))
  refine vq_ret1 st (.inl rfl) results58 (.tmp rfl) ?_
  refine ⟨_, rfl, ?_⟩
  refine ⟨?_, rfl⟩
  rw [Value.bool.injEq]
  (symm; apply isName_nil; (apply List.eq_nil_of_length_eq_zero; omega))
 ·intro hg7
  try simp only [dn] at hg7
  refine ym ?_
  refine vy (y_lens rfl underlying9) ?_
  refine vy (y_gtr rfl rfl) ?_
  refine ypf ?_
  refine vmb ?_ ?_
  ·intro hg12
   try simp only [dn] at hg12
   iterate 3 refine vsk ?_
   refine ypt ?_
   refine ym ?_
   iterate 2 refine vsk ?_
   refine ypt ?_
   refine vc_end (vq_then (vk2 0 20 ?_))
   refine vc_ift rfl ?_
   refine vc_seq (vc_region ?_)
   refine ya ?_
   refine vc_end (vq_then (vk1 2 (vc_ret (vq_then_ret ?_))))
   refine vq_ret1 st (.inl rfl) results58 (.tmp rfl) ?_
   refine ⟨_, rfl, ?_⟩
   refine ⟨?_, rfl⟩
   rw [Value.bool.injEq]
   (symm; apply isName_long; omega)
  ·intro hg12
   try simp only [dn] at hg12
   refine ym ?_
   refine vy (y_ixs (k := 0) rfl rfl underlying9 rfl (by omega)) ?_
   refine vc_e (e_call [_] rfl rfl call123 rfl (rdigit_any _ _) ?_)
   rintro _ w ⟨rfl, rfl⟩
   refine ypf ?_
   refine vmb ?_ ?_
   ·intro hg17
    try simp only [dn] at hg17
    iterate 2 refine vsk ?_
    refine ypt ?_
    refine vc_end (vq_then (vk2 0 20 ?_))
    refine vc_ift rfl ?_
    refine vc_seq (vc_region ?_)
    refine ya ?_
    refine vc_end (vq_then (vk1 2 (vc_ret (vq_then_ret ?_))))
    refine vq_ret1 st (.inl rfl) results58 (.tmp rfl) ?_
    refine ⟨_, rfl, ?_⟩
    refine ⟨?_, rfl⟩
    rw [Value.bool.injEq]
    (symm; apply isName_digit; assumption)
   ·intro hg17
    try simp only [dn] at hg17
    refine ym ?_
    refine vc_e (e_call [_] rfl rfl call124 rfl (rword_any _ _) ?_)
    rintro _ w ⟨rfl, rfl⟩
    refine ypf ?_
    refine vc_end (vq_then (vk2 0 20 ?_))
    refine vc_ifs rfl ?_ ?_
    ·intro hc20
     try simp only [dn] at hc20
     refine vc_seq (vc_region ?_)
     refine ya ?_
     refine vc_end (vq_then (vk1 2 (vc_ret (vq_then_ret ?_))))
     refine vq_ret1 st (.inl rfl) results58 (.tmp rfl) ?_
     refine ⟨_, rfl, ?_⟩
     refine ⟨?_, rfl⟩
     rw [Value.bool.injEq]
     (symm; apply isName_word; assumption)
    ·intro hc20
     try simp only [dn] at hc20
     refine vc_code_skip (vq_then (vk1 0 (vc_seq (vc_seq (vc_region ?_)))))
     refine ya ?_
     refine vc_end (vq_then (vk2 0 3 (vc_block ?_)))
     refine vc_loop (w0 := _) (M := _) (fun (m : Nat) => [(0, str l), (3, .int .i64 (m : Int))]) (fun _ => []) (fun m w' => m ≤ l.length ∧ (l.take m).all isIdent = true ∧ w' = w) (fun m => l.length - m) 0 ⟨rfl, rfl, trivial⟩ st ⟨by omega, by simp, rfl⟩ ?_
     rintro m w' ⟨hm, hall, rfl⟩ st
     refine vc_seq (vc_seq (vc_region ?_))
     iterate 2 refine ym ?_
     refine vy (y_lens rfl underlying9) ?_
     refine vy (y_lss rfl rfl) ?_
     refine vc_end (vq_then (vk3 0 3 24 ?_))
     refine vc_ifs rfl ?_ ?_
     ·intro hc24
      try simp only [dn] at hc24
      refine vc_code_skip (vq_then (vk2 0 3 (vc_seq (vc_block (vc_seq (vc_region ?_))))))
      iterate 2 refine ym ?_
      refine vy (y_ixs (k := _) rfl rfl underlying9 rfl (by omega)) ?_
      refine vc_e (e_call [_] rfl rfl call125 rfl (rletter_any _ _) ?_)
      rintro _ w ⟨rfl, rfl⟩
      refine vy (y_not rfl) ?_
      refine vmb ?_ ?_
      ·intro hg32
       try simp only [dn] at hg32
       iterate 2 refine ym ?_
       refine vy (y_ixs (k := _) rfl rfl underlying9 rfl (by omega)) ?_
       refine vc_e (e_call [_] rfl rfl call123 rfl (rdigit_any _ _) ?_)
       rintro _ w ⟨rfl, rfl⟩
       refine vy (y_not rfl) ?_
       refine ypt ?_
       refine vc_end (vq_then (vk3 0 3 38 ?_))
       refine vc_ifs rfl ?_ ?_
       ·intro hc38
        try simp only [dn] at hc38
        refine vc_seq (vc_region ?_)
        refine ya ?_
        refine vc_end (vq_then (vk1 2 (vc_ret (vq_block_ret (vq_then_ret (vq_then_ret (vq_block_ret (vq_then_ret ?_))))))))
        refine vq_ret1 st (.inl rfl) results58 (.tmp rfl) ?_
        refine ⟨_, rfl, ?_⟩
        refine ⟨?_, rfl⟩
        rw [Value.bool.injEq]
        (symm; rw [isName_eq (by (intro h; subst h; simp at *)) (by omega) (by assumption) (by assumption)]; exact all_no (m := m) (by omega) (by simp only [isIdent, *, Bool.or_true, Bool.true_or, Bool.or_self]))
       ·intro hc38
        try simp only [dn] at hc38
        refine vc_code_skip (vq_block (vq_then (vk2 0 3 (vc_region ?_))))
        refine ym ?_
        refine vy (y_add rfl rfl rfl (by omega) (by omega)) ?_
        refine ya ?_
        refine vc_end ?_
        refine vq_again (m + 1) ⟨rfl, rfl, trivial⟩ st ?_ ?_
        ·exact ⟨by omega, all_take_succ (by omega) hall (by simp only [isIdent, *, Bool.or_true, Bool.true_or, Bool.or_self]), rfl⟩
        ·omega
      ·intro hg32
       try simp only [dn] at hg32
       iterate 5 refine vsk ?_
       refine ypf ?_
       refine vc_end (vq_then (vk3 0 3 38 ?_))
       refine vc_iff rfl ?_
       refine vc_code_skip (vq_block (vq_then (vk2 0 3 (vc_region ?_))))
       refine ym ?_
       refine vy (y_add rfl rfl rfl (by omega) (by omega)) ?_
       refine ya ?_
       refine vc_end ?_
       refine vq_again (m + 1) ⟨rfl, rfl, trivial⟩ st ?_ ?_
       ·exact ⟨by omega, all_take_succ (by omega) hall (by simp only [isIdent, *, Bool.or_true, Bool.true_or, Bool.or_self]), rfl⟩
       ·omega
     ·intro hc24
      try simp only [dn] at hc24
      refine vc_exit (vq_then_exit (vq_then_exit (vq_block_exit (vq_then (vc_keep [] trivial (vc_seq (vc_region ?_)))))))
      refine ya ?_
      refine vc_end (vq_then (vk1 2 (vc_ret ?_)))
      refine vq_ret1 st (.inl rfl) results58 (.tmp rfl) ?_
      refine ⟨_, rfl, ?_⟩
      refine ⟨?_, rfl⟩
      rw [Value.bool.injEq]
      (symm; rw [isName_eq (by (intro h; subst h; simp at *)) (by omega) (by assumption) (by assumption)]; rw [List.take_of_length_le (by omega)] at hall; exact hall)

end Go.Proofs.YtnmhlpnapgojjaaGreatDoor


/- Blanks and remarks between tokens: no program in sight. -/
namespace LexS

end LexS


/- Tokens, their places left out: no program in sight. -/
namespace LexS
end LexS


/- Plain laws on tokens that are told: which are right, and that printed they are cut again. -/
namespace LexS
end LexS


/- Plain laws on numbers as texts: they are cut as one number. -/
namespace LexS
def decF : Nat → Nat → List UInt8
  | 0, n => [UInt8.ofNat (48 + n % 10)]
  | k + 1, n => if n < 10 then [UInt8.ofNat (48 + n)] else decF k (n / 10) ++ [UInt8.ofNat (48 + n % 10)]
/-- a number's digits -/
def dec (n : Nat) : List UInt8 := decF n n
theorem decF_fuel : ∀ (k j n : Nat), n ≤ k → n ≤ j → decF k n = decF j n
  | 0, 0, n, _, _ => rfl
  | 0, j + 1, n, h, _ => by
    obtain rfl : n = 0 := by omega
    simp [decF]
  | k + 1, 0, n, _, h => by
    obtain rfl : n = 0 := by omega
    simp [decF]
  | k + 1, j + 1, n, h1, h2 => by
    simp only [decF]
    split
    · rfl
    · rw [decF_fuel k j (n / 10) (by omega) (by omega)]
theorem dec_small {n : Nat} (h : n < 10) : dec n = [UInt8.ofNat (48 + n)] := by
  unfold dec
  cases n with
  | zero => rfl
  | succ n => simp only [decF]; rw [if_pos h]
theorem dec_big {n : Nat} (h : 10 ≤ n) : dec n = dec (n / 10) ++ [UInt8.ofNat (48 + n % 10)] := by
  unfold dec
  obtain ⟨m, rfl⟩ : ∃ m, n = m + 1 := ⟨n - 1, by omega⟩
  simp only [decF]
  rw [if_neg (by omega), decF_fuel m ((m + 1) / 10) _ (by omega) (by omega)]
theorem digit_of {d : Nat} (h : d < 10) : isDigit (UInt8.ofNat (48 + d)) = true ∧ (UInt8.ofNat (48 + d)).toNat = 48 + d := by
  have e : (UInt8.ofNat (48 + d)).toNat = 48 + d := by
    rw [UInt8.toNat_ofNat']; omega
  refine ⟨?_, e⟩
  simp only [isDigit, decide_eq_true_eq, e]; omega
theorem dec_ind (P : Nat → Prop) (h1 : ∀ n, n < 10 → P n) (h2 : ∀ n, 10 ≤ n → P (n / 10) → P n) (n : Nat) : P n := by
  induction n using Nat.strongRecOn with
  | _ n ih =>
    rcases Nat.lt_or_ge n 10 with h | h
    · exact h1 n h
    · exact h2 n h (ih (n / 10) (by omega))
theorem dec_pos (n : Nat) : 1 ≤ (dec n).length := by
  refine dec_ind (fun n => 1 ≤ (dec n).length) (fun n h => ?_) (fun n h ih => ?_) n
  · rw [dec_small h]; simp
  · rw [dec_big h]; simp
theorem dec_len (k : Nat) : ∀ n, n < 10 ^ (k + 1) → (dec n).length ≤ k + 1 := by
  induction k with
  | zero => intro n h; rw [dec_small (by simpa using h)]; simp
  | succ k ih =>
    intro n h
    rcases Nat.lt_or_ge n 10 with h1 | h1
    · rw [dec_small h1]; simp
    · rw [dec_big h1]
      have := ih (n / 10) (by rw [Nat.div_lt_iff_lt_mul (by omega)]; rw [Nat.pow_succ] at h; exact h)
      simp; omega
/-- a word's text -/
def shw (w : Int) : List UInt8 := if w < 0 then 45 :: dec w.natAbs else dec w.natAbs
end LexS


/- The operators, their signs and levels: no program in sight. -/
namespace LexS
/-- the operators' signs and levels -/
def sgnT : List (List UInt8 × Int) := [([], 0), ([43], 7), ([45], 7), ([42], 8), ([47], 8), ([37], 8), ([38], 3), ([124], 1), ([94], 2), ([60, 60], 6), ([62, 62], 6), ([61, 61], 4), ([33, 61], 4), ([60], 5), ([60, 61], 5), ([62], 5), ([62, 61], 5), ([45], 9), ([33], 9)]
def sgn (k : Nat) : List UInt8 := (sgnT.getD k ([], 0)).1
def lvl (k : Nat) : Int := (sgnT.getD k ([], 0)).2
def knownOp (k : Int) : Bool := decide (0 < k ∧ k < 19)
def twoOp (k : Int) : Bool := decide (0 < k ∧ k < 17)
def shwO (k : Int) : List UInt8 := if knownOp k = true then sgn k.toNat else []
def lvlO (k : Int) : Int := if knownOp k = true then lvl k.toNat else 0
theorem lvlO_nat (m : Nat) (h : m < 19) : lvlO (m : Int) = lvl m := by
  unfold lvlO
  split
  · rfl
  · rename_i hk
    have : m = 0 := by simp [knownOp] at hk; omega
    subst this; rfl
theorem lvlO_big (k : Int) (h : 19 ≤ k) : lvlO k = 0 := by
  unfold lvlO; rw [if_neg (by simp [knownOp]; omega)]
theorem shwO_len' : ∀ m, m < 19 → (sgn m).length ≤ 2 := by decide
theorem shwO_len (k : Int) : (shwO k).length ≤ 2 := by
  unfold shwO
  split
  · rename_i h
    simp [knownOp] at h
    exact shwO_len' _ (by omega)
  · simp
def oneOp (k : Int) : Bool := decide (k = 17 ∨ k = 18)
end LexS


namespace Go.Proofs.YtnmhlpnapgojjaaGreatDoor
open Go.RowKit Sx LexS _root_.Go.Proofs.Tryz
/-- the table of signs lies where the program has it -/
def Sig (w : World) : Prop := ∀ k, k < 19 → w.cell? ⟨0, k * 2, none⟩ = some (str (sgn k)) ∧ w.cell? ⟨0, k * 2 + 1, none⟩ = some (.int .i64 (lvl k))
theorem Sig.kept {w w' : World} (h : Sig w) (c : Chg [] w w') : Sig w' := fun k hk => ⟨c.cell (h k hk).1 (by simp), c.cell (h k hk).2 (by simp)⟩

theorem known_any (k : Int) (w : World) : Ret Tryz.prog 157 [.int .u8 k] w fun v w' => v = .bool (knownOp k) ∧ w' = w := by
 refine ret_of [_] func157 rfl ntmps157 rfl ?_
 have st := St.init w []
 refine vc_seq (vc_region ?_)
 refine ya ?_
 refine vc_end (vq_then (vk1 0 (vc_seq (vc_region ?_))))
 refine ym ?_
 refine vy (y_gtr rfl rfl) ?_
 refine vmb ?_ ?_
 ·intro hg5
  try simp only [dn] at hg5
  refine ym ?_
  refine vy (y_lss rfl rfl) ?_
  refine ypt ?_
  refine ya ?_
  refine vc_end (vq_then (vk1 2 (vc_ret ?_)))
  refine vq_ret1 st (.inl rfl) results157 (.tmp rfl) ?_
  refine ⟨_, rfl, ?_⟩
  refine ⟨?_, rfl⟩
  congr 1
  unfold knownOp
  (symm; simp; omega)
 ·intro hg5
  try simp only [dn] at hg5
  iterate 2 refine vsk ?_
  refine ypf ?_
  refine ya ?_
  refine vc_end (vq_then (vk1 2 (vc_ret ?_)))
  refine vq_ret1 st (.inl rfl) results157 (.tmp rfl) ?_
  refine ⟨_, rfl, ?_⟩
  refine ⟨?_, rfl⟩
  congr 1
  unfold knownOp
  (symm; simp; omega)

theorem two_any (k : Int) (w : World) : Ret Tryz.prog 104 [.int .u8 k] w fun v w' => v = .bool (twoOp k) ∧ w' = w := by
 refine ret_of [_] func104 rfl ntmps104 rfl ?_
 have st := St.init w []
 refine vc_seq (vc_region ?_)
 refine ya ?_
 refine vc_end (vq_then (vk1 0 (vc_seq (vc_region ?_))))
 refine ym ?_
 refine vc_e (e_call [_] rfl rfl call157 rfl (known_any _ _) ?_)
 rintro _ _ ⟨rfl, rfl⟩
 refine vmb ?_ ?_
 ·intro hg5
  try simp only [dn] at hg5
  refine ym ?_
  refine vy (y_nei rfl rfl) ?_
  refine ypt ?_
  refine vmb ?_ ?_
  ·intro hg9
   try simp only [dn] at hg9
   refine ym ?_
   refine vy (y_nei rfl rfl) ?_
   refine ypt ?_
   refine ya ?_
   refine vc_end (vq_then (vk1 2 (vc_ret ?_)))
   refine vq_ret1 st (.inl rfl) results104 (.tmp rfl) ?_
   refine ⟨_, rfl, ?_⟩
   refine ⟨?_, rfl⟩
   show Value.bool _ = Value.bool _
   congr 1
   unfold knownOp at *
   unfold twoOp
   simp only [decide_eq_true_eq, decide_eq_false_iff_not, Bool.not_eq_true', Bool.not_eq_false'] at *
   (rw [Bool.eq_iff_iff]; simp only [Bool.not_eq_true', decide_eq_false_iff_not, decide_eq_true_eq]; omega)
  ·intro hg9
   try simp only [dn] at hg9
   iterate 2 refine vsk ?_
   refine ypf ?_
   refine ya ?_
   refine vc_end (vq_then (vk1 2 (vc_ret ?_)))
   refine vq_ret1 st (.inl rfl) results104 (.tmp rfl) ?_
   refine ⟨_, rfl, ?_⟩
   refine ⟨?_, rfl⟩
   show Value.bool _ = Value.bool _
   congr 1
   unfold knownOp at *
   unfold twoOp
   simp only [decide_eq_true_eq, decide_eq_false_iff_not, Bool.not_eq_true', Bool.not_eq_false'] at *
   (symm; rw [decide_eq_false_iff_not]; omega)
 ·intro hg5
  try simp only [dn] at hg5
  iterate 2 refine vsk ?_
  refine ypf ?_
  refine ym ?_
  iterate 2 refine vsk ?_
  refine ypf ?_
  refine ya ?_
  refine vc_end (vq_then (vk1 2 (vc_ret ?_)))
  refine vq_ret1 st (.inl rfl) results104 (.tmp rfl) ?_
  refine ⟨_, rfl, ?_⟩
  refine ⟨?_, rfl⟩
  show Value.bool _ = Value.bool _
  congr 1
  unfold knownOp at *
  unfold twoOp
  simp only [decide_eq_true_eq, decide_eq_false_iff_not, Bool.not_eq_true', Bool.not_eq_false'] at *
  (symm; rw [decide_eq_false_iff_not]; omega)

theorem show_any (k : Int) (w : World) (hs : Sig w) : Ret Tryz.prog 107 [.int .u8 k] w fun v w' => v = str (if knownOp k = true then sgn k.toNat else []) ∧ w' = w := by
 refine ret_of [_] func107 rfl ntmps107 rfl ?_
 have st := St.init w []
 refine vc_seq (vc_region ?_)
 refine ya ?_
 refine vc_end (vq_then (vk1 0 (vc_seq (vc_seq (vc_region ?_)))))
 refine ym ?_
 refine vc_e (e_call [_] rfl rfl call157 rfl (known_any _ _) ?_)
 rintro _ _ ⟨rfl, rfl⟩
 refine vy (y_not rfl) ?_
 refine vc_end (vq_then (vk2 0 5 ?_))
 refine vc_ifs rfl ?_ ?_
 ·intro hc5
  try simp only [dn] at hc5
  refine vc_seq (vc_region ?_)
  refine ya ?_
  refine vc_end (vq_then (vk1 2 (vc_ret (vq_then_ret ?_))))
  refine vq_ret1 st (.inl rfl) results107 (.tmp rfl) ?_
  refine ⟨_, rfl, ?_⟩
  refine ⟨?_, rfl⟩
  rw [if_neg (by simpa using hc5)]
 ·intro hc5
  try simp only [dn] at hc5
  have hk : 0 < k ∧ k < 19 := by simpa [knownOp] using hc5
  obtain ⟨m, rfl⟩ : ∃ m : Nat, k = (m : Int) := ⟨k.toNat, by omega⟩
  refine vc_code_skip (vq_then (vk1 0 (vc_seq (vc_region ?_))))
  refine ym ?_
  refine vy (y_iaa (k := m) rfl rfl underlying204 sizeOf203 rfl (by omega)) ?_
  refine vy (y_fa0 rfl underlying203 rfl rfl sizeOf9 rfl) ?_
  refine vy ((by exact y_ldc rfl isAgg9 (by have h := (hs m (by omega)).1; rw [Nat.zero_add]; exact h))) ?_
  refine ya ?_
  refine vc_end (vq_then (vk1 2 (vc_ret ?_)))
  refine vq_ret1 st (.inl rfl) results107 (.tmp rfl) ?_
  refine ⟨_, rfl, ?_⟩
  refine ⟨?_, rfl⟩
  rw [if_pos (by simpa using hc5)]
  rfl

abbrev zs (k : Nat) : List Value := List.replicate k (.int .u8 0)
theorem zs_set (k : Nat) (t : List UInt8) (c : UInt8) (x : Int) (hx : (c.toNat : Int) = x) (hk : 0 < k) : (zs k ++ bytesL t).set (k - 1) (.int .u8 x) = zs (k - 1) ++ bytesL (c :: t) := by
 obtain ⟨m, rfl⟩ : ∃ m, k = m + 1 := ⟨k - 1, by omega⟩
 have e : zs (m + 1) = zs m ++ [.int .u8 0] := by simp [zs, List.replicate_succ']
 rw [e, Nat.add_sub_cancel, List.append_assoc, List.set_append_right _ _ (by simp)]
 subst hx
 simp
theorem zs_len (k : Nat) (t : List UInt8) : (zs k ++ bytesL t).length = k + t.length := by simp
theorem blk_rd {w : World} {b k E : Nat} {t : List UInt8} {c : Nat} (h : w.heap[b]? = some (.cells (zs k ++ bytesL t).toArray E (0, 0))) : RdRowP w (some ⟨b, 0 + k * 1, none⟩) c (bytesL t) :=
 .inr ⟨b, 0 + k * 1, rfl, fun j u hj => cell_blk h (by
   rw [nth_eq, List.getElem?_append_right (by simp)]
   simpa [show 0 + k * 1 + j - k = j by omega] using hj)⟩

set_option maxHeartbeats 1000000 in
theorem wprint_any (x : Int) (w : World) (hx : -9223372036854775808 ≤ x ∧ x ≤ 9223372036854775807) : Ret Tryz.prog 76 [.int .i64 x] w fun v w' => v = str (shw x) ∧ Chg [] w w' := by
 refine ret_of [_] func76 rfl ntmps76 rfl ?_
 have st := St.init w []
 obtain ⟨w0, rfl⟩ : ∃ w0, w0 = w := ⟨_, rfl⟩
 have hdl := dec_len 18 x.natAbs (by simp only [Nat.reducePow, Nat.reduceAdd]; omega)
 refine vc_seq (vc_region ?_)
 refine ya ?_
 refine vc_end (vq_then (vk1 0 (vc_seq (vc_region ?_))))
 refine vc_e (e_al (l := [_, _, _, _, _, _, _, _, _, _, _, _, _, _, _, _, _, _, _, _]) st rfl rfl zeroValue181 rfl ?_)
 intro b3 w hb3 st
 refine vc_end (vq_then (vk2 0 3 (vc_seq (vc_region ?_))))
 refine ya ?_
 refine vc_end (vq_then (vk3 0 3 4 (vc_seq (vc_region ?_))))
 refine ym ?_
 refine vy (y_cvi rfl underlying182 underlying2 (rfl : _ = IntKind.u64.wrap x)) ?_
 refine ya ?_
 refine vc_end (vq_then (vk4 0 3 4 5 ?_))
 refine vc_cut (w0 := w0) (M := []) (fun (_ : Unit) => [(0, .int .i64 x), (3, .pointer (some ⟨b3, 0, none⟩)), (4, .int .i64 20), (5, .int .u64 (x.natAbs : Int))]) (fun _ => [.blk b3 (.cells (zs 20 ++ bytesL []).toArray 181 (0, 0))]) (fun _ _ => True) ?_ ?_
 ·refine vc_seq (vc_region ?_)
  refine ym ?_
  refine vy (y_lss rfl rfl) ?_
  refine vc_end (vq_then (vk5 0 3 4 5 9 ?_))
  refine vc_ifs rfl ?_ ?_
  ·intro hc9
   try simp only [dn] at hc9
   refine vc_region ?_
   refine ym ?_
   refine vy (y_neg rfl (by rw [wrap_u64, wrap_u64]; omega : _ = (x.natAbs : Int))) ?_
   refine ya ?_
   refine vc_end ?_
   exact vq_meet () ⟨rfl, rfl, rfl, rfl, trivial⟩ st trivial
  ·intro hc9
   try simp only [dn] at hc9
   refine vc_code_skip ?_
   exact vq_meet () ⟨rfl, rfl, rfl, by simp only [find, Nat.beq]; congr 2; rw [wrap_u64]; omega, trivial⟩ st trivial
 ·clear st
  rintro ⟨⟩ w - st
  refine vc_seq (vc_block ?_)
  refine vc_loop (w0 := _) (M := _) (fun (y : Nat × Nat × List UInt8) => [(0, .int .i64 x), (3, .pointer (some ⟨b3, 0, none⟩)), (4, .int .i64 (y.1 : Int)), (5, .int .u64 (y.2.1 : Int))]) (fun y => [.blk b3 (.cells (zs y.1 ++ bytesL y.2.2).toArray 181 (0, 0))]) (fun y _ => y.1 + y.2.2.length = 20 ∧ dec y.2.1 ++ y.2.2 = dec x.natAbs ∧ y.2.1 ≤ x.natAbs) (fun y => y.1) (20, x.natAbs, []) ⟨rfl, rfl, rfl, rfl, trivial⟩ st ⟨rfl, by simp, by simp⟩ ?_
  rintro ⟨at_, n, t⟩ w ⟨hat, hdec, hnx⟩ st
  dsimp only at *
  have hdp := dec_pos n
  have hlen := congrArg List.length hdec
  rw [List.length_append] at hlen
  obtain ⟨hdg1, hdg2⟩ := digit_of (Nat.mod_lt n (by omega : 0 < 10))
  refine vc_block (vc_seq (vc_region ?_))
  refine ym ?_
  refine vy (y_sub rfl rfl (by omega : _ = ((at_ - 1 : Nat) : Int)) (by omega) (by omega)) ?_
  refine ya ?_
  refine vc_end (vq_then (vk4 0 3 4 5 (vc_seq (vc_region ?_))))
  iterate 2 refine ym ?_
  refine vy (y_remk rfl rfl (by omega) (by omega) (by omega : _ = ((n % 10 : Nat) : Int))) ?_
  refine vy (y_addk rfl rfl (by rw [wrap_u64]; omega : _ = ((48 + n % 10 : Nat) : Int))) ?_
  refine vy (y_cvi rfl underlying5 underlying182 (by rw [wrap_u8]; omega : _ = ((48 + n % 10 : Nat) : Int))) ?_
  refine vy (y_iaa (k := (at_ - 1)) rfl rfl underlying181 sizeOf5 rfl (by omega)) ?_
  refine vc_e (e_sta (l' := zs (at_ - 1) ++ bytesL (UInt8.ofNat (48 + n % 10) :: t)) st 0 rfl rfl rfl rfl sizeOf5 rfl (by rw [zs_len]; omega) (by rw [show 0 + (at_ - 1) * 1 = at_ - 1 by omega]; exact zs_set at_ t (UInt8.ofNat (48 + n % 10)) _ (by rw [hdg2]) (by omega)) (.inr hb3) ?_)
  intro w st; dsimp only [setNth] at st
  refine vc_end (vq_then (vk4 0 3 4 5 (vc_seq (vc_region ?_))))
  refine ym ?_
  refine vy (y_quok rfl rfl (by omega) (by omega) (by rw [wrap_u64]; omega : _ = ((n / 10 : Nat) : Int))) ?_
  refine ya ?_
  refine vc_end (vq_then (vk4 0 3 4 5 (vc_seq (vc_region ?_))))
  refine ym ?_
  refine vy (y_eqi rfl rfl) ?_
  refine vc_end (vq_then (vk5 0 3 4 5 23 ?_))
  refine vc_ifs rfl ?_ ?_
  ·intro hc23
   try simp only [dn] at hc23
   have hn : n < 10 := by omega
   have hfin : UInt8.ofNat (48 + n % 10) :: t = dec x.natAbs := by rw [← hdec, dec_small hn, Nat.mod_eq_of_lt hn]; rfl
   rw [hfin] at st
   have hlen2 := congrArg List.length hfin
   simp only [List.length_cons] at hlen2
   refine vc_exit (vq_block_other rfl (vq_then_exit (vq_block_exit (vq_then (vk3 0 3 4 (vc_seq (vc_seq (vc_region ?_))))))))
   refine ym ?_
   refine vy (y_lss rfl rfl) ?_
   refine vc_end (vq_then (vk3 3 4 25 ?_))
   refine vc_ifs rfl ?_ ?_
   ·intro hc25
    try simp only [dn] at hc25
    refine vc_seq (vc_region ?_)
    refine ym ?_
    refine vy (y_sub rfl rfl (by omega : _ = ((at_ - 2 : Nat) : Int)) (by omega) (by omega)) ?_
    refine ya ?_
    refine vc_end (vq_then (vk2 3 4 (vc_region ?_)))
    refine ym ?_
    refine vy (y_iaa (k := (at_ - 2)) rfl rfl underlying181 sizeOf5 rfl (by omega)) ?_
    refine vc_e (e_sta (l' := zs (at_ - 2) ++ bytesL (45 :: dec x.natAbs)) st 0 rfl rfl rfl rfl sizeOf5 rfl (by rw [zs_len]; omega) (by rw [show 0 + (at_ - 2) * 1 = (at_ - 1) - 1 by omega]; have := zs_set (at_ - 1) (dec x.natAbs) 45 45 (by rfl) (by omega); rw [show at_ - 1 - 1 = at_ - 2 by omega] at this ⊢; exact this) (.inr hb3) ?_)
    intro w st; dsimp only [setNth] at st
    refine vc_end (vq_then (vk2 3 4 (vc_seq (vc_region ?_))))
    refine ym ?_
    refine vy (y_sla (i := _) rfl rfl underlying181 sizeOf5 rfl (by omega)) ?_
    refine vy (y_b2s rfl (blk_rd (st.res (i := 0) rfl)) (by (simp only [List.length_cons]; omega)) underlying78 underlying5 underlying9) ?_
    refine ya ?_
    refine vc_end (vq_then (vk1 2 (vc_ret ?_)))
    refine vq_ret1 st (.inl rfl) results76 (.tmp rfl) ?_
    refine ⟨_, rfl, ?_⟩
    refine ⟨?_, st.chg⟩
    unfold shw
    rw [if_pos (by omega)]
   ·intro hc25
    try simp only [dn] at hc25
    refine vc_code_skip (vq_then (vk2 3 4 (vc_seq (vc_region ?_))))
    refine ym ?_
    refine vy (y_sla (i := _) rfl rfl underlying181 sizeOf5 rfl (by omega)) ?_
    refine vy (y_b2s rfl (blk_rd (st.res (i := 0) rfl)) (by omega) underlying78 underlying5 underlying9) ?_
    refine ya ?_
    refine vc_end (vq_then (vk1 2 (vc_ret ?_)))
    refine vq_ret1 st (.inl rfl) results76 (.tmp rfl) ?_
    refine ⟨_, rfl, ?_⟩
    refine ⟨?_, st.chg⟩
    unfold shw
    rw [if_neg (by omega)]
  ·intro hc23
   try simp only [dn] at hc23
   refine vc_code_skip (vq_block ?_)
   refine vq_again (at_ - 1, n / 10, UInt8.ofNat (48 + n % 10) :: t)  ⟨rfl, rfl, rfl, rfl, trivial⟩ st ?_ ?_
   ·refine ⟨by simp; omega, ?_, by dsimp only; omega⟩
    dsimp only
    rw [← hdec, dec_big (n := n) (by omega)]; simp
   ·dsimp only; omega

end Go.Proofs.YtnmhlpnapgojjaaGreatDoor


namespace Go.Proofs.YtnmhlpnapgojjaaGreatDoor
open Go.RowKit Sx LexS _root_.Go.Proofs.Tryz
def lvlV : List Value := [.int .i64 (lvl 0), .int .i64 (lvl 1), .int .i64 (lvl 2), .int .i64 (lvl 3), .int .i64 (lvl 4), .int .i64 (lvl 5), .int .i64 (lvl 6), .int .i64 (lvl 7), .int .i64 (lvl 8), .int .i64 (lvl 9), .int .i64 (lvl 10), .int .i64 (lvl 11), .int .i64 (lvl 12), .int .i64 (lvl 13), .int .i64 (lvl 14), .int .i64 (lvl 15), .int .i64 (lvl 16), .int .i64 (lvl 17), .int .i64 (lvl 18)]
theorem lvlV_at : ∀ m, m < 19 → nth lvlV m = some (.int .i64 (lvl m))
 | 0, _ => rfl
 | 1, _ => rfl
 | 2, _ => rfl
 | 3, _ => rfl
 | 4, _ => rfl
 | 5, _ => rfl
 | 6, _ => rfl
 | 7, _ => rfl
 | 8, _ => rfl
 | 9, _ => rfl
 | 10, _ => rfl
 | 11, _ => rfl
 | 12, _ => rfl
 | 13, _ => rfl
 | 14, _ => rfl
 | 15, _ => rfl
 | 16, _ => rfl
 | 17, _ => rfl
 | 18, _ => rfl
 | n + 19, h => by omega
theorem cell_nth {w : World} {b off E : Nat} {l : List Value} {v : Value} (h : w.heap[b]? = some (.cells l.toArray E (0, 0))) (hv : nth l off = some v) : w.cell? ⟨b, off, none⟩ = some v := cell_blk h hv

theorem level_any (k : Int) (w : World) (hs : Sig w) : Ret Tryz.prog 105 [.int .u8 k] w fun v w' => v = .int .i64 (lvlO k) ∧ w' = w := by
 refine ret_of [_] func105 rfl ntmps105 rfl ?_
 have st := St.init w []
 refine vc_seq (vc_region ?_)
 refine ya ?_
 refine vc_end (vq_then (vk1 0 (vc_seq (vc_seq (vc_region ?_)))))
 refine ym ?_
 refine vc_e (e_call [_] rfl rfl call157 rfl (known_any _ _) ?_)
 rintro _ _ ⟨rfl, rfl⟩
 refine vy (y_not rfl) ?_
 refine vc_end (vq_then (vk2 0 5 ?_))
 refine vc_ifs rfl ?_ ?_
 ·intro hc5
  try simp only [dn] at hc5
  refine vc_seq (vc_region ?_)
  refine ya ?_
  refine vc_end (vq_then (vk1 2 (vc_ret (vq_then_ret ?_))))
  refine vq_ret1 st (.inl rfl) results105 (.tmp rfl) ?_
  refine ⟨_, rfl, ?_⟩
  refine ⟨?_, rfl⟩
  unfold lvlO
  rw [if_neg (by simpa using hc5)]
 ·intro hc5
  try simp only [dn] at hc5
  have hk : 0 < k ∧ k < 19 := by simpa [knownOp] using hc5
  obtain ⟨m, rfl⟩ : ∃ m : Nat, k = (m : Int) := ⟨k.toNat, by omega⟩
  refine vc_code_skip (vq_then (vk1 0 (vc_seq (vc_region ?_))))
  refine ym ?_
  refine vy (y_iaa (k := m) rfl rfl underlying204 sizeOf203 rfl (by omega)) ?_
  refine vy (y_fa (k := 1) rfl underlying203 rfl rfl sizeOf3 rfl) ?_
  refine vy ((by exact y_ldc rfl isAgg3 (by have h := (hs m (by omega)).2; rw [Nat.zero_add]; exact h))) ?_
  refine ya ?_
  refine vc_end (vq_then (vk1 2 (vc_ret ?_)))
  refine vq_ret1 st (.inl rfl) results105 (.tmp rfl) ?_
  refine ⟨_, rfl, ?_⟩
  refine ⟨?_, rfl⟩
  unfold lvlO
  rw [if_pos (by simpa using hc5)]
  rfl

theorem rlevel_any (k : Int) (hk : 0 ≤ k) (w : World) : Ret Tryz.prog 250 [.int .u8 k] w fun v w' => v = .int .i64 (lvlO k) ∧ Chg [] w w' := by
 refine ret_of [_] func250 rfl ntmps250 rfl ?_
 have st := St.init w []
 refine vc_seq (vc_region ?_)
 refine ya ?_
 refine vc_end (vq_then (vk1 0 (vc_seq (vc_seq (vc_region ?_)))))
 refine ym ?_
 refine vy (y_geq rfl rfl) ?_
 refine vc_end (vq_then (vk2 0 4 ?_))
 refine vc_ifs rfl ?_ ?_
 ·intro hc4
  try simp only [dn] at hc4
  refine vc_seq (vc_region ?_)
  refine ya ?_
  refine vc_end (vq_then (vk1 2 (vc_ret (vq_then_ret ?_))))
  refine vq_ret1 st (.inl rfl) results250 (.tmp rfl) ?_
  refine ⟨_, rfl, ?_⟩
  refine ⟨?_, st.chg⟩
  rw [lvlO_big k (by omega)]
 ·intro hc4
  try simp only [dn] at hc4
  obtain ⟨m, rfl⟩ : ∃ m : Nat, k = (m : Int) := ⟨k.toNat, by omega⟩
  refine vc_code_skip (vq_then (vk1 0 (vc_seq (vc_region ?_))))
  refine vc_e (e_bsn (l := lvlV) (E := 3) st [(0, _), (1, _), (2, _), (3, _), (4, _), (5, _), (6, _), (7, _), (8, _), (9, _), (10, _), (11, _), (12, _), (13, _), (14, _), (15, _), (16, _), (17, _), (18, _)] rfl rfl rfl (fun w => by simp [Instr.buildSlice, run_underlying underlying262, sizeOf3, zeroValue3, Instr.fill, newRow, newObj, Sem.run, go_sem]; rfl) ?_)
  intro b5 w hb5 st
  refine ym ?_
  refine vy (y_ia0 (k := m) rfl rfl underlying262 sizeOf3 rfl (by omega)) ?_
  refine vy ((by exact y_ldc rfl isAgg3 (cell_nth (st.res (i := 0) rfl) (by rw [Nat.mul_one]; exact lvlV_at m (by omega))))) ?_
  refine ya ?_
  refine vc_end (vq_then (vk1 2 (vc_ret ?_)))
  refine vq_ret1 st (.inl rfl) results250 (.tmp rfl) ?_
  refine ⟨_, rfl, ?_⟩
  refine ⟨?_, st.chg⟩
  rw [lvlO_nat m (by omega)]

theorem rtwo_any (k : Int) (w : World) : Ret Tryz.prog 235 [.int .u8 k] w fun v w' => v = .bool (twoOp k) ∧ w' = w := by
 refine ret_of [_] func235 rfl ntmps235 rfl ?_
 have st := St.init w []
 refine vc_seq (vc_region ?_)
 refine ya ?_
 refine vc_end (vq_then (vk1 0 (vc_seq (vc_region ?_))))
 refine ym ?_
 refine vy (y_geq rfl rfl) ?_
 refine vmb ?_ ?_
 ·intro hg5
  try simp only [dn] at hg5
  refine ym ?_
  refine vy (y_leq rfl rfl) ?_
  refine ypt ?_
  refine ya ?_
  refine vc_end (vq_then (vk1 2 (vc_ret ?_)))
  refine vq_ret1 st (.inl rfl) results235 (.tmp rfl) ?_
  refine ⟨_, rfl, ?_⟩
  refine ⟨?_, rfl⟩
  show Value.bool _ = Value.bool _
  congr 1
  unfold twoOp
  (rw [Bool.eq_iff_iff]; simp only [decide_eq_true_eq]; omega)
 ·intro hg5
  try simp only [dn] at hg5
  iterate 2 refine vsk ?_
  refine ypf ?_
  refine ya ?_
  refine vc_end (vq_then (vk1 2 (vc_ret ?_)))
  refine vq_ret1 st (.inl rfl) results235 (.tmp rfl) ?_
  refine ⟨_, rfl, ?_⟩
  refine ⟨?_, rfl⟩
  show Value.bool _ = Value.bool _
  congr 1
  unfold twoOp
  (symm; rw [decide_eq_false_iff_not]; omega)

theorem rone_any (k : Int) (w : World) : Ret Tryz.prog 234 [.int .u8 k] w fun v w' => v = .bool (oneOp k) ∧ w' = w := by
 refine ret_of [_] func234 rfl ntmps234 rfl ?_
 have st := St.init w []
 refine vc_seq (vc_region ?_)
 refine ya ?_
 refine vc_end (vq_then (vk1 0 (vc_seq (vc_region ?_))))
 refine ym ?_
 refine vy (y_eqi rfl rfl) ?_
 refine vmb ?_ ?_
 ·intro hg5
  try simp only [dn] at hg5
  iterate 2 refine vsk ?_
  refine ypt ?_
  refine ya ?_
  refine vc_end (vq_then (vk1 2 (vc_ret ?_)))
  refine vq_ret1 st (.inl rfl) results234 (.tmp rfl) ?_
  refine ⟨_, rfl, ?_⟩
  refine ⟨?_, rfl⟩
  show Value.bool _ = Value.bool _
  congr 1
  unfold oneOp
  (symm; rw [decide_eq_true_eq]; omega)
 ·intro hg5
  try simp only [dn] at hg5
  refine ym ?_
  refine vy (y_eqi rfl rfl) ?_
  refine ypf ?_
  refine ya ?_
  refine vc_end (vq_then (vk1 2 (vc_ret ?_)))
  refine vq_ret1 st (.inl rfl) results234 (.tmp rfl) ?_
  refine ⟨_, rfl, ?_⟩
  refine ⟨?_, rfl⟩
  show Value.bool _ = Value.bool _
  congr 1
  unfold oneOp
  (rw [Bool.eq_iff_iff]; simp only [decide_eq_true_eq]; omega)

theorem named_any (l : List UInt8) (b : Bool) (w : World) : Ret Tryz.prog 149 [str l, .bool b] w fun v w' => v = .bool (if b = true then isName l else decide (l = [])) ∧ w' = w := by
 refine ret_of [_, _] func149 rfl ntmps149 rfl ?_
 have st := St.init w []
 refine vc_seq (vc_region ?_)
 refine ya ?_
 refine vc_end (vq_then (vk2 0 1 (vc_seq (vc_region ?_))))
 refine ym ?_
 refine vmb ?_ ?_
 ·intro hg6
  try simp only [dn] at hg6
  refine ym ?_
  refine vc_e (e_call [_] rfl rfl call52 rfl (name_any _ _) ?_)
  rintro _ _ ⟨rfl, rfl⟩
  refine ypt ?_
  refine vmb ?_ ?_
  ·intro hg10
   try simp only [dn] at hg10
   iterate 6 refine vsk ?_
   refine ypt ?_
   refine ya ?_
   refine vc_end (vq_then (vk1 4 (vc_ret ?_)))
   refine vq_ret1 st (.inl rfl) results149 (.tmp rfl) ?_
   refine ⟨_, rfl, ?_⟩
   refine ⟨?_, rfl⟩
   show Value.bool _ = Value.bool _
   congr 1
   cases b <;> simp_all
  ·intro hg10
   try simp only [dn] at hg10
   refine ym ?_
   refine vy (y_not rfl) ?_
   refine vmb ?_ ?_
   ·intro hg13
    try simp only [dn] at hg13
    refine ym ?_
    refine vy (y_eqs rfl rfl) ?_
    refine ypt ?_
    refine ypf ?_
    refine ya ?_
    refine vc_end (vq_then (vk1 4 (vc_ret ?_)))
    refine vq_ret1 st (.inl rfl) results149 (.tmp rfl) ?_
    refine ⟨_, rfl, ?_⟩
    refine ⟨?_, rfl⟩
    show Value.bool _ = Value.bool _
    congr 1
    cases b <;> simp_all
   ·intro hg13
    try simp only [dn] at hg13
    iterate 2 refine vsk ?_
    iterate 2 refine ypf ?_
    refine ya ?_
    refine vc_end (vq_then (vk1 4 (vc_ret ?_)))
    refine vq_ret1 st (.inl rfl) results149 (.tmp rfl) ?_
    refine ⟨_, rfl, ?_⟩
    refine ⟨?_, rfl⟩
    show Value.bool _ = Value.bool _
    congr 1
    cases b <;> simp_all
 ·intro hg6
  try simp only [dn] at hg6
  iterate 2 refine vsk ?_
  refine ypf ?_
  iterate 2 refine ym ?_
  refine vy (y_not rfl) ?_
  refine vmb ?_ ?_
  ·intro hg13
   try simp only [dn] at hg13
   refine ym ?_
   refine vy (y_eqs rfl rfl) ?_
   refine ypt ?_
   refine ypf ?_
   refine ya ?_
   refine vc_end (vq_then (vk1 4 (vc_ret ?_)))
   refine vq_ret1 st (.inl rfl) results149 (.tmp rfl) ?_
   refine ⟨_, rfl, ?_⟩
   refine ⟨?_, rfl⟩
   show Value.bool _ = Value.bool _
   congr 1
   cases b <;> simp_all
  ·intro hg13
   try simp only [dn] at hg13
   iterate 2 refine vsk ?_
   iterate 2 refine ypf ?_
   refine ya ?_
   refine vc_end (vq_then (vk1 4 (vc_ret ?_)))
   refine vq_ret1 st (.inl rfl) results149 (.tmp rfl) ?_
   refine ⟨_, rfl, ?_⟩
   refine ⟨?_, rfl⟩
   show Value.bool _ = Value.bool _
   congr 1
   cases b <;> simp_all

end Go.Proofs.YtnmhlpnapgojjaaGreatDoor


/- When a tree may be written, and its text: no program in sight. -/
namespace LexS
open Sx
/-! ## when a tree may be written, and its text -/
/-- does a kid of a binary expression stand in parentheses? -/
def inn (op : Int) (x : Ex) (second : Bool) : Bool := decide (x.k = 4) && (decide (lvlO x.op < lvlO op) || second && decide (lvlO x.op = lvlO op))
def rightE : Ex → Nat → Bool
  | .mk k op wd nm kids a, d => decide (d ≤ 64) && (
    if k = 1 then decide (0 ≤ wd ∧ op = 0 ∧ nm = [] ∧ kids.length = 0)
    else if k = 2 then isName nm && decide (op = 0 ∧ wd = 0 ∧ kids.length = 0)
    else if k = 3 then oneOp op && decide (wd = 0 ∧ nm = []) && (match kids with | [x] => rightE x (if x.k = 4 then d + 2 else d + 1) | _ => false)
    else if k = 4 then twoOp op && decide (wd = 0 ∧ nm = []) && (match kids with | [x, y] => rightE x (if inn op x false = true then d + 1 else d) && rightE y (if inn op y true = true then d + 1 else d) | _ => false)
    else false)
def par (b : Bool) (l : List UInt8) : List UInt8 := if b = true then [40] ++ l ++ [41] else l
def txtE : Ex → List UInt8
  | .mk k op wd nm kids a => if k = 1 then shw wd else if k = 2 then nm else if k = 3 then shwO op ++ (match kids with | [x] => par (decide (x.k = 4)) (txtE x) | _ => [])
    else (match kids with | [x, y] => par (inn op x false) (txtE x) ++ ([32] ++ shwO op ++ [32]) ++ par (inn op y true) (txtE y) | _ => [])
def mar (d : Nat) : List UInt8 := List.replicate (2 * d) 32
def hasN (k : Int) : Bool := decide (k = 1 ∨ k = 2 ∨ k = 5)
def hasE (k : Int) : Bool := decide (k = 1 ∨ k = 2 ∨ k = 3 ∨ k = 4 ∨ k = 6)
def hasB (k : Int) : Bool := decide (k = 3 ∨ k = 4 ∨ k = 5)
def nmOk (b : Bool) (l : List UInt8) : Bool := if b = true then isName l else decide (l = [])
def rightX (b : Bool) (e : List Ex) : Bool := if b = true then (match e with | [x] => rightE x 0 | _ => false) else decide (e.length = 0)
mutual
def rightS : Sm → Nat → Bool
  | .mk k nm other e body els a, d => decide (1 ≤ k ∧ k ≤ 7) && nmOk (hasN k) nm && nmOk (decide (k = 2)) other && rightX (hasE k) e && (hasB k || decide (body.length = 0)) && (decide (k = 3) || decide (els.length = 0)) &&
    (!(hasB k || decide (0 < els.length)) || decide (d < 64)) && rightSs body (d + 1) && rightSs els (d + 1)
termination_by structural s => s
def rightSs : List Sm → Nat → Bool
  | [], _ => true
  | s :: r, d => rightS s d && rightSs r d
termination_by structural l => l
end
def txX (e : List Ex) : List UInt8 := match e with | x :: _ => txtE x | [] => []
mutual
def txtS : Sm → Nat → List UInt8
  | .mk k nm other e body els a, d =>
    if k = 1 then mar d ++ (nm ++ [32, 61, 32] ++ txX e ++ [59, 10])
    else if k = 2 then mar d ++ (nm ++ [32, 61, 32, 115, 119, 97, 112, 40] ++ other ++ [44, 32] ++ txX e ++ [41, 59, 10])
    else if k = 6 then mar d ++ ([112, 114, 105, 110, 116, 32] ++ txX e ++ [59, 10])
    else if k = 7 then mar d ++ [115, 107, 105, 112, 59, 10]
    else if k = 5 then mar d ++ ([108, 111, 99, 107, 32] ++ nm ++ [32, 123, 10]) ++ txtSs body (d + 1) ++ mar d ++ [125, 10]
    else mar d ++ ((if k = 4 then [119, 104, 105, 108, 101, 32, 40] else [105, 102, 32, 40]) ++ txX e ++ [41, 32, 123, 10]) ++ txtSs body (d + 1) ++ (if 0 < els.length then mar d ++ [125, 32, 101, 108, 115, 101, 32, 123, 10] ++ txtSs els (d + 1) else []) ++ mar d ++ [125, 10]
termination_by structural s => s
def txtSs : List Sm → Nat → List UInt8
  | [], _ => []
  | s :: r, d => txtS s d ++ txtSs r d
termination_by structural l => l
end
def dcOk (shared : Bool) (x : Dc) : Bool := isName x.nm && (if shared = true then decide (x.wd ≠ -9223372036854775808) else decide (x.wd = 0))
def thOk (t : Th) : Bool := isName t.nm && t.locals.all (dcOk false) && rightSs t.body 1
def pgOk (p : Pg) : Bool := p.shared.all (dcOk true) && p.locks.all (dcOk false) && p.threads.all thOk
def dcT (x : Dc) : List UInt8 := x.nm ++ (if x.wd = 0 then [] else [32, 61, 32] ++ shw x.wd)
/-- ', ' between -/
def joinC : List (List UInt8) → List UInt8
  | [] => []
  | [x] => x
  | x :: y :: r => x ++ [44, 32] ++ joinC (y :: r)
def dcsT (word : List UInt8) (d : Nat) (l : List Dc) : List UInt8 := if l.length = 0 then [] else mar d ++ (word ++ [32] ++ joinC (l.map dcT) ++ [59, 10])
def thT (t : Th) : List UInt8 := ([116, 104, 114, 101, 97, 100, 32] ++ t.nm ++ [32, 123, 10]) ++ dcsT [108, 111, 99, 97, 108] 1 t.locals ++ txtSs t.body 1 ++ [125, 10]
def pgT (p : Pg) : List UInt8 := dcsT [115, 104, 97, 114, 101, 100] 0 p.shared ++ dcsT [108, 111, 99, 107] 0 p.locks ++ (p.threads.map thT).flatten
def pgRes (p : Pg) : List UInt8 × Nat := if pgOk p = true then (if (pgT p).length ≤ 65536 then (pgT p, 0) else ([], 4)) else ([], 40)
end LexS


namespace Go.Proofs.YtnmhlpnapgojjaaGreatDoor
open Go.RowKit Sx LexS _root_.Go.Proofs.Tryz
theorem rightE_le {e : Ex} {d : Nat} (h : rightE e d = true) : d ≤ 64 := by
 cases e
 unfold rightE at h
 simp only [Bool.and_eq_true, decide_eq_true_eq] at h
 exact h.1
theorem rightSs_get : ∀ {l : List Sm} {d j : Nat} {s : Sm}, rightSs l d = true → l[j]? = some s → rightS s d = true
 | [], d, j, s, _, h => by simp at h
 | x :: r, d, 0, s, h, hj => by
  simp only [List.getElem?_cons_zero, Option.some.injEq] at hj
  subst hj
  simp only [rightSs, Bool.and_eq_true] at h
  exact h.1
 | x :: r, d, j + 1, s, h, hj => by
  simp only [rightSs, Bool.and_eq_true] at h
  exact rightSs_get h.2 (by simpa using hj)
theorem rightSs_no : ∀ {l : List Sm} {d j : Nat} {s : Sm}, rightS s d = false → l[j]? = some s → rightSs l d = false
 | [], d, j, s, _, h => by simp at h
 | x :: r, d, 0, s, h, hj => by
  simp only [List.getElem?_cons_zero, Option.some.injEq] at hj
  subst hj
  simp [rightSs, h]
 | x :: r, d, j + 1, s, h, hj => by
  simp [rightSs, rightSs_no h (by simpa using hj : r[j]? = some s)]
/-! ## reading rows -/
theorem RowC.at {w : World} {S : Nat → Prop} {sz n : Nat} {oa : Option Addr} {vs : Nat → List Value} (h : RowC w S sz oa n vs) (hn : 0 < n) :
    ∃ b off, oa = some ⟨b, off, none⟩ ∧ S b ∧ b < w.heap.size ∧ ∀ j, j < n → (vs j).length = sz ∧ ∀ i v, (vs j)[i]? = some v → w.cell? ⟨b, off + j * sz + i, none⟩ = some v := by
 rcases h with h | h
 ·omega
 ·exact h
abbrev szo {α : Type} [SizeOf α] (x : α) : Nat := SizeOf.sizeOf x
theorem ex_size {k op wd : Int} {nm : List UInt8} {kids : List Ex} {a : Int} : szo kids < szo (Ex.mk k op wd nm kids a) := by
 simp only [szo, Ex.mk.sizeOf_spec]; omega
theorem mem_size {α : Type} [SizeOf α] {l : List α} {j : Nat} {x : α} (h : l[j]? = some x) : szo x < szo l := List.sizeOf_lt_of_mem (List.mem_of_getElem? h)
theorem sm_size {k : Int} {nm other : List UInt8} {e : List Ex} {body els : List Sm} {a : Int} : szo body < szo (Sm.mk k nm other e body els a) ∧ szo els < szo (Sm.mk k nm other e body els a) := by
 simp only [szo, Sm.mk.sizeOf_spec]; omega
section
variable {w w' : World} {S : Nat → Prop} {M : List Nat}
/-- an expression's value -/
abbrev exL (e : Ex) (oa : Option Addr) (cap : Nat) : List Value := [.int .u8 e.k, .int .u8 e.op, .int .i64 e.wd, str e.nm, .slice oa e.kids.length cap, .int .i64 e.a]
theorem ExV.inv {e : Ex} {l : List Value} (h : ExV w S e l) : ∃ oa cap, l = exL e oa cap ∧ ExRow w S oa e.kids := by
 cases h with
 | mk vs hr hk => exact ⟨_, _, rfl, vs, hr, hk⟩
theorem ExRow.at {oa : Option Addr} {es : List Ex} (h : ExRow w S oa es) (hn : 0 < es.length) : ∃ b off, oa = some ⟨b, off, none⟩ ∧ S b ∧ b < w.heap.size ∧
    ∀ j x, es[j]? = some x → ∃ o c, ExV w S x (exL x o c) ∧ ExRow w S o x.kids ∧ ∀ i v, (exL x o c)[i]? = some v → w.cell? ⟨b, off + j * 6 + i, none⟩ = some v := by
 obtain ⟨vs, hr, hk⟩ := h
 obtain ⟨b, off, e, hb, hl, hc⟩ := RowC.at hr hn
 refine ⟨b, off, e, hb, hl, fun j x hx => ?_⟩
 have hx' := hk j x hx
 obtain ⟨o, c, e2, hr2⟩ := ExV.inv hx'
 have := (hc j (List.getElem?_eq_some_iff.1 hx).1).2
 rw [e2] at hx' this
 exact ⟨o, c, hx', hr2, this⟩
/-- a statement's value -/
abbrev smL (s : Sm) (oe ob ol : Option Addr) (ce cb cl : Nat) : List Value := [.int .u8 s.k, str s.nm, str s.other, .slice oe s.e.length ce, .slice ob s.body.length cb, .slice ol s.els.length cl, .int .i64 s.a]
theorem SmV.inv {s : Sm} {l : List Value} (h : SmV w S s l) : ∃ oe ob ol ce cb cl, l = smL s oe ob ol ce cb cl ∧ ExRow w S oe s.e ∧ SmRow w S ob s.body ∧ SmRow w S ol s.els := by
 cases h with
 | mk vb vl he hb hbk hl hlk => exact ⟨_, _, _, _, _, _, rfl, he, ⟨vb, hb, hbk⟩, ⟨vl, hl, hlk⟩⟩
theorem SmRow.at {oa : Option Addr} {es : List Sm} (h : SmRow w S oa es) (hn : 0 < es.length) : ∃ b off, oa = some ⟨b, off, none⟩ ∧ S b ∧ b < w.heap.size ∧
    ∀ j s, es[j]? = some s → ∃ oe ob ol ce cb cl, SmV w S s (smL s oe ob ol ce cb cl) ∧ ExRow w S oe s.e ∧ SmRow w S ob s.body ∧ SmRow w S ol s.els ∧ ∀ i v, (smL s oe ob ol ce cb cl)[i]? = some v → w.cell? ⟨b, off + j * 7 + i, none⟩ = some v := by
 obtain ⟨vs, hr, hk⟩ := h
 obtain ⟨b, off, e, hb, hl, hc⟩ := RowC.at hr hn
 refine ⟨b, off, e, hb, hl, fun j x hx => ?_⟩
 have hx' := hk j x hx
 obtain ⟨oe, ob, ol, ce, cb, cl, e2, h1, h2, h3⟩ := SmV.inv hx'
 have := (hc j (List.getElem?_eq_some_iff.1 hx).1).2
 rw [e2] at hx' this
 exact ⟨oe, ob, ol, ce, cb, cl, hx', h1, h2, h3, this⟩
theorem DcRow.at {oa : Option Addr} {ds : List Dc} (h : DcRow w S oa ds) (hn : 0 < ds.length) : ∃ b off, oa = some ⟨b, off, none⟩ ∧ S b ∧ b < w.heap.size ∧
    ∀ j x, ds[j]? = some x → ∀ i v, (dcL x)[i]? = some v → w.cell? ⟨b, off + j * 3 + i, none⟩ = some v := by
 obtain ⟨b, off, e, hb, hl, hc⟩ := RowC.at h hn
 refine ⟨b, off, e, hb, hl, fun j x hx => ?_⟩
 have hj := (List.getElem?_eq_some_iff.1 hx).1
 have := (hc j hj).2
 simp only [List.getD, hx, Option.getD_some] at this
 exact this
abbrev thL (t : Th) (ol ob : Option Addr) (cl cb : Nat) : List Value := [str t.nm, .slice ol t.locals.length cl, .slice ob t.body.length cb, .int .i64 t.a]
theorem ThRow.at {oa : Option Addr} {ts : List Th} (h : ThRow w S oa ts) (hn : 0 < ts.length) : ∃ b off, oa = some ⟨b, off, none⟩ ∧ S b ∧ b < w.heap.size ∧
    ∀ j t, ts[j]? = some t → ∃ ol ob cl cb, DcRow w S ol t.locals ∧ SmRow w S ob t.body ∧ ∀ i v, (thL t ol ob cl cb)[i]? = some v → w.cell? ⟨b, off + j * 4 + i, none⟩ = some v := by
 obtain ⟨vs, hr, hk⟩ := h
 obtain ⟨b, off, e, hb, hl, hc⟩ := RowC.at hr hn
 refine ⟨b, off, e, hb, hl, fun j x hx => ?_⟩
 obtain ⟨ol, cl, ob, cb, e2, h1, h2⟩ := hk j x hx
 have := (hc j (List.getElem?_eq_some_iff.1 hx).1).2
 rw [e2] at this
 exact ⟨ol, ob, cl, cb, h1, h2, this⟩
theorem Sig.kept' (h : Sig w) (c : Chg M w w') (hm : 0 ∉ M) : Sig w' := fun k hk => ⟨c.cell (h k hk).1 (by simpa using hm), c.cell (h k hk).2 (by simpa using hm)⟩
end
theorem get0 {α : Type} {l : List α} {n : Nat} (h : l.length = n) (hn : 0 < n) : ∃ x, l[0]? = some x := by
 cases l with
 | nil => simp at h; omega
 | cons x r => exact ⟨x, rfl⟩
theorem one_form {α : Type} {l : List α} {x : α} (h : l.length = 1) (h0 : l[0]? = some x) : l = [x] := by
 match l, h with
 | [y], _ => simp at h0; rw [h0]
theorem two_form {α : Type} {l : List α} {x y : α} (h : l.length = 2) (h0 : l[0]? = some x) (h1 : l[1]? = some y) : l = [x, y] := by
 match l, h with
 | [a, b], _ => simp at h0 h1; rw [h0, h1]
theorem get1 {α : Type} {l : List α} (h : l.length = 2) : ∃ x, l[1]? = some x := by
 match l, h with
 | [a, b], _ => exact ⟨b, rfl⟩
theorem rightE_1 {e : Ex} {d : Nat} (h : e.k = 1) (hd : d ≤ 64) : rightE e d = decide (0 ≤ e.wd ∧ e.op = 0 ∧ e.nm = [] ∧ e.kids.length = 0) := by
 cases e; simp only [Ex.k] at h; subst h; unfold rightE; simp [hd, Ex.wd, Ex.op, Ex.nm, Ex.kids]
theorem rightE_2 {e : Ex} {d : Nat} (h : e.k = 2) (hd : d ≤ 64) : rightE e d = (isName e.nm && decide (e.op = 0 ∧ e.wd = 0 ∧ e.kids.length = 0)) := by
 cases e; simp only [Ex.k] at h; subst h; unfold rightE; simp [hd, Ex.wd, Ex.op, Ex.nm, Ex.kids]
theorem rightE_3 {e x : Ex} {d : Nat} (h : e.k = 3) (hd : d ≤ 64) (hx : e.kids = [x]) : rightE e d = (oneOp e.op && decide (e.wd = 0 ∧ e.nm = []) && rightE x (if x.k = 4 then d + 2 else d + 1)) := by
 cases e with
 | mk k op wd nm kids a =>
  change k = 3 at h; change kids = [x] at hx; subst h hx
  show rightE (.mk 3 op wd nm [x] a) d = (oneOp op && decide (wd = 0 ∧ nm = []) && rightE x (if x.k = 4 then d + 2 else d + 1))
  rw [rightE]; simp [hd]
theorem rightE_3n {e : Ex} {d : Nat} (h : e.k = 3) (hx : e.kids.length ≠ 1 ∨ oneOp e.op = false ∨ e.wd ≠ 0 ∨ e.nm ≠ []) : rightE e d = false := by
 cases e with
 | mk k op wd nm kids a =>
  simp only [Ex.k] at h; subst h
  simp only [Ex.kids, Ex.op, Ex.wd, Ex.nm] at hx
  rcases kids with _ | ⟨x, _ | ⟨y, _ | ⟨z, r⟩⟩⟩ <;> rw [rightE] <;> rcases hx with h | h | h | h <;> simp_all
theorem rightE_4 {e x y : Ex} {d : Nat} (h : e.k = 4) (hd : d ≤ 64) (hx : e.kids = [x, y]) : rightE e d = (twoOp e.op && decide (e.wd = 0 ∧ e.nm = []) && (rightE x (if inn e.op x false = true then d + 1 else d) && rightE y (if inn e.op y true = true then d + 1 else d))) := by
 cases e with
 | mk k op wd nm kids a =>
  change k = 4 at h; change kids = [x, y] at hx; subst h hx
  show rightE (.mk 4 op wd nm [x, y] a) d = (twoOp op && decide (wd = 0 ∧ nm = []) && (rightE x (if inn op x false = true then d + 1 else d) && rightE y (if inn op y true = true then d + 1 else d)))
  rw [rightE]; simp [hd]
theorem rightE_4n {e : Ex} {d : Nat} (h : e.k = 4) (hx : e.kids.length ≠ 2 ∨ twoOp e.op = false ∨ e.wd ≠ 0 ∨ e.nm ≠ []) : rightE e d = false := by
 cases e with
 | mk k op wd nm kids a =>
  simp only [Ex.k] at h; subst h
  simp only [Ex.kids, Ex.op, Ex.wd, Ex.nm] at hx
  rcases kids with _ | ⟨x, _ | ⟨y, _ | ⟨z, r⟩⟩⟩ <;> rw [rightE] <;> rcases hx with h | h | h | h <;> simp_all
theorem rightE_0 {e : Ex} {d : Nat} (h1 : e.k ≠ 1) (h2 : e.k ≠ 2) (h3 : e.k ≠ 3) (h4 : e.k ≠ 4) : rightE e d = false := by
 cases e; simp only [Ex.k] at *; unfold rightE; simp [h1, h2, h3, h4]
theorem inn_f {op : Int} {x : Ex} (h : x.k = 4) : inn op x false = decide (lvlO x.op < lvlO op) := by unfold inn; simp [h]
theorem inn_n {op : Int} {x : Ex} {b : Bool} (h : ¬x.k = 4) : inn op x b = false := by unfold inn; simp [h]
theorem inn_t {op : Int} {x : Ex} (h : x.k = 4) : inn op x true = decide (lvlO x.op ≤ lvlO op) := by
 unfold inn; rw [Bool.eq_iff_iff]; simp [h]; omega
theorem rightE_big {e : Ex} {d : Nat} (h : 64 < d) : rightE e d = false := by
 cases hr : rightE e d
 ·rfl
 ·have := rightE_le hr; omega
theorem rightE_3d {e : Ex} {d : Nat} (h : e.k = 3) (hd : 64 ≤ d) : rightE e d = false := by
 by_cases h1 : e.kids.length = 1
 ·obtain ⟨x, hx⟩ := get0 h1 (by omega)
  by_cases h2 : d ≤ 64
  ·rw [rightE_3 h h2 (one_form h1 hx), rightE_big (by split <;> omega), Bool.and_false]
  ·exact rightE_big (by omega)
 ·exact rightE_3n h (.inl h1)
theorem szo_kids (e : Ex) : szo e.kids < szo e := by cases e; exact ex_size
end Go.Proofs.YtnmhlpnapgojjaaGreatDoor

