/- A part of the proof: contracts of functions and plain laws; each theorem says its own conditions. -/
import Derived.Laws.OwnMore
import Derived.Laws.StructEq
import Derived.Great.BuildSlice
import Derived.Lib.AppendStr
import Derived.Laws.BytesArg
import Derived.Laws.MakeOwn
import Derived.WalkKit
import Derived.ProofKit
import Derived.OpenShut
import Derived.ChangeOld
import Derived.OpenVars
import Derived.Below
import Derived.Test.YtnmhlpnapgojjaaDoorK0
namespace Go.Proofs.YtnmhlpnapgojjaaDoor
open Go.RowKit Sx LexS
set_option linter.unusedVariables false
set_option linter.unusedSimpArgs false

set_option maxHeartbeats 1000000 in
theorem word_any (l : List UInt8) (w : World) : Ret Tryd.prog 71 [str l] w fun v w' => v = .bool (isWord l) ∧ w' = w := by
  refine ret_of [_] Tryd.func71 rfl Tryd.ntmps71 rfl ?_
  have st := St.init w []
  refine vc_seq ?_
  refine vc_region ?_
  refine vc_y rfl rfl (y_as rfl) ?_
  refine vc_end ?_
  refine vq_then ?_
  refine vc_keep [(0, _)] ⟨rfl, trivial⟩ ?_
  refine vc_seq ?_
  refine vc_seq ?_
  refine vc_region ?_
  refine vc_y rfl rfl (y_mv rfl) ?_
  refine vc_end ?_
  refine vq_then ?_
  refine vc_keep [(3, _)] ⟨rfl, trivial⟩ ?_
  refine vc_block ?_
  refine vc_seq ?_
  refine vc_seq ?_
  refine vc_region ?_
  refine vc_y rfl rfl (y_eqs rfl rfl) ?_
  refine vc_y rfl rfl (y_as rfl) ?_
  refine vc_end ?_
  refine vq_then ?_
  refine vc_keep [(3, _), (4, _)] ⟨rfl, rfl, trivial⟩ ?_
  refine vc_ifs rfl ?_ ?_
  · intro hc4
    try simp only [dn] at hc4
    refine vc_code_skip ?_
    refine vq_then ?_
    refine vc_keep [(4, _)] ⟨rfl, trivial⟩ ?_
    refine vc_ift rfl ?_
    refine vc_seq ?_
    refine vc_region ?_
    refine vc_y rfl rfl (y_as rfl) ?_
    refine vc_end ?_
    refine vq_then ?_
    refine vc_keep [(2, _)] ⟨rfl, trivial⟩ ?_
    refine vc_ret ?_
    refine vq_block_ret ?_
    refine vq_then_ret ?_
    refine vq_ret1 st (.inl rfl) Tryd.results71 (.tmp rfl) ?_
    refine ⟨_, rfl, ?_⟩
    refine ⟨?_, rfl⟩
    rw [Value.bool.injEq]
    first
    | (symm; simp only [isWord, decide_eq_true_eq]; simp only [wShared, wLock, wThread, wLocal, wIf, wElse, wWhile, wPrint, wSkip, wSwap]; simp only [*, true_or, or_true]; done)
    | (symm; simp only [isWord, decide_eq_false_iff_not]; simp only [wShared, wLock, wThread, wLocal, wIf, wElse, wWhile, wPrint, wSkip, wSwap]; simp only [*, or_self, not_false_eq_true])
  · intro hc4
    try simp only [dn] at hc4
    refine vc_seq ?_
    refine vc_region ?_
    refine vc_y rfl rfl (y_eqs rfl rfl) ?_
    refine vc_y rfl rfl (y_as rfl) ?_
    refine vc_end ?_
    refine vq_then ?_
    refine vc_keep [(3, _), (4, _)] ⟨rfl, rfl, trivial⟩ ?_
    refine vc_ifs rfl ?_ ?_
    · intro hc4
      try simp only [dn] at hc4
      refine vc_code_skip ?_
      refine vq_then ?_
      refine vc_keep [(4, _)] ⟨rfl, trivial⟩ ?_
      refine vc_ift rfl ?_
      refine vc_seq ?_
      refine vc_region ?_
      refine vc_y rfl rfl (y_as rfl) ?_
      refine vc_end ?_
      refine vq_then ?_
      refine vc_keep [(2, _)] ⟨rfl, trivial⟩ ?_
      refine vc_ret ?_
      refine vq_block_ret ?_
      refine vq_then_ret ?_
      refine vq_ret1 st (.inl rfl) Tryd.results71 (.tmp rfl) ?_
      refine ⟨_, rfl, ?_⟩
      refine ⟨?_, rfl⟩
      rw [Value.bool.injEq]
      first
      | (symm; simp only [isWord, decide_eq_true_eq]; simp only [wShared, wLock, wThread, wLocal, wIf, wElse, wWhile, wPrint, wSkip, wSwap]; simp only [*, true_or, or_true]; done)
      | (symm; simp only [isWord, decide_eq_false_iff_not]; simp only [wShared, wLock, wThread, wLocal, wIf, wElse, wWhile, wPrint, wSkip, wSwap]; simp only [*, or_self, not_false_eq_true])
    · intro hc4
      try simp only [dn] at hc4
      refine vc_seq ?_
      refine vc_region ?_
      refine vc_y rfl rfl (y_eqs rfl rfl) ?_
      refine vc_y rfl rfl (y_as rfl) ?_
      refine vc_end ?_
      refine vq_then ?_
      refine vc_keep [(3, _), (4, _)] ⟨rfl, rfl, trivial⟩ ?_
      refine vc_ifs rfl ?_ ?_
      · intro hc4
        try simp only [dn] at hc4
        refine vc_code_skip ?_
        refine vq_then ?_
        refine vc_keep [(4, _)] ⟨rfl, trivial⟩ ?_
        refine vc_ift rfl ?_
        refine vc_seq ?_
        refine vc_region ?_
        refine vc_y rfl rfl (y_as rfl) ?_
        refine vc_end ?_
        refine vq_then ?_
        refine vc_keep [(2, _)] ⟨rfl, trivial⟩ ?_
        refine vc_ret ?_
        refine vq_block_ret ?_
        refine vq_then_ret ?_
        refine vq_ret1 st (.inl rfl) Tryd.results71 (.tmp rfl) ?_
        refine ⟨_, rfl, ?_⟩
        refine ⟨?_, rfl⟩
        rw [Value.bool.injEq]
        first
        | (symm; simp only [isWord, decide_eq_true_eq]; simp only [wShared, wLock, wThread, wLocal, wIf, wElse, wWhile, wPrint, wSkip, wSwap]; simp only [*, true_or, or_true]; done)
        | (symm; simp only [isWord, decide_eq_false_iff_not]; simp only [wShared, wLock, wThread, wLocal, wIf, wElse, wWhile, wPrint, wSkip, wSwap]; simp only [*, or_self, not_false_eq_true])
      · intro hc4
        try simp only [dn] at hc4
        refine vc_seq ?_
        refine vc_region ?_
        refine vc_y rfl rfl (y_eqs rfl rfl) ?_
        refine vc_y rfl rfl (y_as rfl) ?_
        refine vc_end ?_
        refine vq_then ?_
        refine vc_keep [(3, _), (4, _)] ⟨rfl, rfl, trivial⟩ ?_
        refine vc_ifs rfl ?_ ?_
        · intro hc4
          try simp only [dn] at hc4
          refine vc_code_skip ?_
          refine vq_then ?_
          refine vc_keep [(4, _)] ⟨rfl, trivial⟩ ?_
          refine vc_ift rfl ?_
          refine vc_seq ?_
          refine vc_region ?_
          refine vc_y rfl rfl (y_as rfl) ?_
          refine vc_end ?_
          refine vq_then ?_
          refine vc_keep [(2, _)] ⟨rfl, trivial⟩ ?_
          refine vc_ret ?_
          refine vq_block_ret ?_
          refine vq_then_ret ?_
          refine vq_ret1 st (.inl rfl) Tryd.results71 (.tmp rfl) ?_
          refine ⟨_, rfl, ?_⟩
          refine ⟨?_, rfl⟩
          rw [Value.bool.injEq]
          first
          | (symm; simp only [isWord, decide_eq_true_eq]; simp only [wShared, wLock, wThread, wLocal, wIf, wElse, wWhile, wPrint, wSkip, wSwap]; simp only [*, true_or, or_true]; done)
          | (symm; simp only [isWord, decide_eq_false_iff_not]; simp only [wShared, wLock, wThread, wLocal, wIf, wElse, wWhile, wPrint, wSkip, wSwap]; simp only [*, or_self, not_false_eq_true])
        · intro hc4
          try simp only [dn] at hc4
          refine vc_seq ?_
          refine vc_region ?_
          refine vc_y rfl rfl (y_eqs rfl rfl) ?_
          refine vc_y rfl rfl (y_as rfl) ?_
          refine vc_end ?_
          refine vq_then ?_
          refine vc_keep [(3, _), (4, _)] ⟨rfl, rfl, trivial⟩ ?_
          refine vc_ifs rfl ?_ ?_
          · intro hc4
            try simp only [dn] at hc4
            refine vc_code_skip ?_
            refine vq_then ?_
            refine vc_keep [(4, _)] ⟨rfl, trivial⟩ ?_
            refine vc_ift rfl ?_
            refine vc_seq ?_
            refine vc_region ?_
            refine vc_y rfl rfl (y_as rfl) ?_
            refine vc_end ?_
            refine vq_then ?_
            refine vc_keep [(2, _)] ⟨rfl, trivial⟩ ?_
            refine vc_ret ?_
            refine vq_block_ret ?_
            refine vq_then_ret ?_
            refine vq_ret1 st (.inl rfl) Tryd.results71 (.tmp rfl) ?_
            refine ⟨_, rfl, ?_⟩
            refine ⟨?_, rfl⟩
            rw [Value.bool.injEq]
            first
            | (symm; simp only [isWord, decide_eq_true_eq]; simp only [wShared, wLock, wThread, wLocal, wIf, wElse, wWhile, wPrint, wSkip, wSwap]; simp only [*, true_or, or_true]; done)
            | (symm; simp only [isWord, decide_eq_false_iff_not]; simp only [wShared, wLock, wThread, wLocal, wIf, wElse, wWhile, wPrint, wSkip, wSwap]; simp only [*, or_self, not_false_eq_true])
          · intro hc4
            try simp only [dn] at hc4
            refine vc_seq ?_
            refine vc_region ?_
            refine vc_y rfl rfl (y_eqs rfl rfl) ?_
            refine vc_y rfl rfl (y_as rfl) ?_
            refine vc_end ?_
            refine vq_then ?_
            refine vc_keep [(3, _), (4, _)] ⟨rfl, rfl, trivial⟩ ?_
            refine vc_ifs rfl ?_ ?_
            · intro hc4
              try simp only [dn] at hc4
              refine vc_code_skip ?_
              refine vq_then ?_
              refine vc_keep [(4, _)] ⟨rfl, trivial⟩ ?_
              refine vc_ift rfl ?_
              refine vc_seq ?_
              refine vc_region ?_
              refine vc_y rfl rfl (y_as rfl) ?_
              refine vc_end ?_
              refine vq_then ?_
              refine vc_keep [(2, _)] ⟨rfl, trivial⟩ ?_
              refine vc_ret ?_
              refine vq_block_ret ?_
              refine vq_then_ret ?_
              refine vq_ret1 st (.inl rfl) Tryd.results71 (.tmp rfl) ?_
              refine ⟨_, rfl, ?_⟩
              refine ⟨?_, rfl⟩
              rw [Value.bool.injEq]
              first
              | (symm; simp only [isWord, decide_eq_true_eq]; simp only [wShared, wLock, wThread, wLocal, wIf, wElse, wWhile, wPrint, wSkip, wSwap]; simp only [*, true_or, or_true]; done)
              | (symm; simp only [isWord, decide_eq_false_iff_not]; simp only [wShared, wLock, wThread, wLocal, wIf, wElse, wWhile, wPrint, wSkip, wSwap]; simp only [*, or_self, not_false_eq_true])
            · intro hc4
              try simp only [dn] at hc4
              refine vc_seq ?_
              refine vc_region ?_
              refine vc_y rfl rfl (y_eqs rfl rfl) ?_
              refine vc_y rfl rfl (y_as rfl) ?_
              refine vc_end ?_
              refine vq_then ?_
              refine vc_keep [(3, _), (4, _)] ⟨rfl, rfl, trivial⟩ ?_
              refine vc_ifs rfl ?_ ?_
              · intro hc4
                try simp only [dn] at hc4
                refine vc_code_skip ?_
                refine vq_then ?_
                refine vc_keep [(4, _)] ⟨rfl, trivial⟩ ?_
                refine vc_ift rfl ?_
                refine vc_seq ?_
                refine vc_region ?_
                refine vc_y rfl rfl (y_as rfl) ?_
                refine vc_end ?_
                refine vq_then ?_
                refine vc_keep [(2, _)] ⟨rfl, trivial⟩ ?_
                refine vc_ret ?_
                refine vq_block_ret ?_
                refine vq_then_ret ?_
                refine vq_ret1 st (.inl rfl) Tryd.results71 (.tmp rfl) ?_
                refine ⟨_, rfl, ?_⟩
                refine ⟨?_, rfl⟩
                rw [Value.bool.injEq]
                first
                | (symm; simp only [isWord, decide_eq_true_eq]; simp only [wShared, wLock, wThread, wLocal, wIf, wElse, wWhile, wPrint, wSkip, wSwap]; simp only [*, true_or, or_true]; done)
                | (symm; simp only [isWord, decide_eq_false_iff_not]; simp only [wShared, wLock, wThread, wLocal, wIf, wElse, wWhile, wPrint, wSkip, wSwap]; simp only [*, or_self, not_false_eq_true])
              · intro hc4
                try simp only [dn] at hc4
                refine vc_seq ?_
                refine vc_region ?_
                refine vc_y rfl rfl (y_eqs rfl rfl) ?_
                refine vc_y rfl rfl (y_as rfl) ?_
                refine vc_end ?_
                refine vq_then ?_
                refine vc_keep [(3, _), (4, _)] ⟨rfl, rfl, trivial⟩ ?_
                refine vc_ifs rfl ?_ ?_
                · intro hc4
                  try simp only [dn] at hc4
                  refine vc_code_skip ?_
                  refine vq_then ?_
                  refine vc_keep [(4, _)] ⟨rfl, trivial⟩ ?_
                  refine vc_ift rfl ?_
                  refine vc_seq ?_
                  refine vc_region ?_
                  refine vc_y rfl rfl (y_as rfl) ?_
                  refine vc_end ?_
                  refine vq_then ?_
                  refine vc_keep [(2, _)] ⟨rfl, trivial⟩ ?_
                  refine vc_ret ?_
                  refine vq_block_ret ?_
                  refine vq_then_ret ?_
                  refine vq_ret1 st (.inl rfl) Tryd.results71 (.tmp rfl) ?_
                  refine ⟨_, rfl, ?_⟩
                  refine ⟨?_, rfl⟩
                  rw [Value.bool.injEq]
                  first
                  | (symm; simp only [isWord, decide_eq_true_eq]; simp only [wShared, wLock, wThread, wLocal, wIf, wElse, wWhile, wPrint, wSkip, wSwap]; simp only [*, true_or, or_true]; done)
                  | (symm; simp only [isWord, decide_eq_false_iff_not]; simp only [wShared, wLock, wThread, wLocal, wIf, wElse, wWhile, wPrint, wSkip, wSwap]; simp only [*, or_self, not_false_eq_true])
                · intro hc4
                  try simp only [dn] at hc4
                  refine vc_seq ?_
                  refine vc_region ?_
                  refine vc_y rfl rfl (y_eqs rfl rfl) ?_
                  refine vc_y rfl rfl (y_as rfl) ?_
                  refine vc_end ?_
                  refine vq_then ?_
                  refine vc_keep [(3, _), (4, _)] ⟨rfl, rfl, trivial⟩ ?_
                  refine vc_ifs rfl ?_ ?_
                  · intro hc4
                    try simp only [dn] at hc4
                    refine vc_code_skip ?_
                    refine vq_then ?_
                    refine vc_keep [(4, _)] ⟨rfl, trivial⟩ ?_
                    refine vc_ift rfl ?_
                    refine vc_seq ?_
                    refine vc_region ?_
                    refine vc_y rfl rfl (y_as rfl) ?_
                    refine vc_end ?_
                    refine vq_then ?_
                    refine vc_keep [(2, _)] ⟨rfl, trivial⟩ ?_
                    refine vc_ret ?_
                    refine vq_block_ret ?_
                    refine vq_then_ret ?_
                    refine vq_ret1 st (.inl rfl) Tryd.results71 (.tmp rfl) ?_
                    refine ⟨_, rfl, ?_⟩
                    refine ⟨?_, rfl⟩
                    rw [Value.bool.injEq]
                    first
                    | (symm; simp only [isWord, decide_eq_true_eq]; simp only [wShared, wLock, wThread, wLocal, wIf, wElse, wWhile, wPrint, wSkip, wSwap]; simp only [*, true_or, or_true]; done)
                    | (symm; simp only [isWord, decide_eq_false_iff_not]; simp only [wShared, wLock, wThread, wLocal, wIf, wElse, wWhile, wPrint, wSkip, wSwap]; simp only [*, or_self, not_false_eq_true])
                  · intro hc4
                    try simp only [dn] at hc4
                    refine vc_region ?_
                    refine vc_y rfl rfl (y_eqs rfl rfl) ?_
                    refine vc_y rfl rfl (y_as rfl) ?_
                    refine vc_end ?_
                    refine vq_then ?_
                    refine vc_keep [(4, _)] ⟨rfl, trivial⟩ ?_
                    refine vc_ifs rfl ?_ ?_
                    · intro hc4
                      try simp only [dn] at hc4
                      refine vc_seq ?_
                      refine vc_region ?_
                      refine vc_y rfl rfl (y_as rfl) ?_
                      refine vc_end ?_
                      refine vq_then ?_
                      refine vc_keep [(2, _)] ⟨rfl, trivial⟩ ?_
                      refine vc_ret ?_
                      refine vq_block_ret ?_
                      refine vq_then_ret ?_
                      refine vq_ret1 st (.inl rfl) Tryd.results71 (.tmp rfl) ?_
                      refine ⟨_, rfl, ?_⟩
                      refine ⟨?_, rfl⟩
                      rw [Value.bool.injEq]
                      first
                      | (symm; simp only [isWord, decide_eq_true_eq]; simp only [wShared, wLock, wThread, wLocal, wIf, wElse, wWhile, wPrint, wSkip, wSwap]; simp only [*, true_or, or_true]; done)
                      | (symm; simp only [isWord, decide_eq_false_iff_not]; simp only [wShared, wLock, wThread, wLocal, wIf, wElse, wWhile, wPrint, wSkip, wSwap]; simp only [*, or_self, not_false_eq_true])
                    · intro hc4
                      try simp only [dn] at hc4
                      refine vc_code_skip ?_
                      refine vq_block ?_
                      refine vq_then ?_
                      refine vc_keep [] trivial ?_
                      refine vc_seq ?_
                      refine vc_region ?_
                      refine vc_y rfl rfl (y_as rfl) ?_
                      refine vc_end ?_
                      refine vq_then ?_
                      refine vc_keep [(2, _)] ⟨rfl, trivial⟩ ?_
                      refine vc_ret ?_
                      refine vq_ret1 st (.inl rfl) Tryd.results71 (.tmp rfl) ?_
                      refine ⟨_, rfl, ?_⟩
                      refine ⟨?_, rfl⟩
                      rw [Value.bool.injEq]
                      first
                      | (symm; simp only [isWord, decide_eq_true_eq]; simp only [wShared, wLock, wThread, wLocal, wIf, wElse, wWhile, wPrint, wSkip, wSwap]; simp only [*, true_or, or_true]; done)
                      | (symm; simp only [isWord, decide_eq_false_iff_not]; simp only [wShared, wLock, wThread, wLocal, wIf, wElse, wWhile, wPrint, wSkip, wSwap]; simp only [*, or_self, not_false_eq_true])

end Go.Proofs.YtnmhlpnapgojjaaDoor


/- The engine, fifth part: append. -/
namespace Sx
open Go Go.RowKit
set_option linter.unusedVariables false
set_option linter.unusedSimpArgs false

section
variable {w0 w w' : World} {M : List Nat} {hs : List Res}

theorem St.app (st : St w0 M hs w) {i e size n n' : Nat} {v v' : Value} {xs xs' : List Value} (hi : nth hs i = some (.own v e size n xs)) (hg : w.grownBy w' v.ownBlock)
    (hown : w'.ownsRow w0.heap.size e size v' n' xs') (hat : v'.ownBlock = v.ownBlock ∨ v'.ownBlock = some w.heap.size) :
    St w0 M (setNth hs i (.own v' e size n' xs')) w' :=
  st.swap hi (Chg.of_grownByO hg) (by simp [Res.at?]) (fun k hk => .inr ((World.ownsRow.lt (st.res hi) k (by simpa using hk)).1)) (fun k hk => by
    simp only [Res.at?] at hk ⊢
    rcases hat with h | h
    · rw [h] at hk; exact .inl hk
    · rw [h] at hk; simp at hk; exact .inr (by omega)) hown

/-- an owned slice that is nil comes to be -/
theorem St.ownNil (st : St w0 M hs w) (e size : Nat) : St w0 M (.own (.slice none 0 0) e size 0 [] :: hs) w :=
  st.pushR (Chg.refl _ _) (World.ownsRow_nil w _ e size) (by simp [Res.at?, Value.ownBlock])

variable {P : Program} {n : Fr} {L : List Oper} {Q : Exit → Act → World → Prop} {kn : Kn} {N : Act → World → Prop}
variable {d ty : Nat} {pos : String} {aft : Array Edge} {g : Option (Nat × Bool)}

/-- append(v, x..): an owned slice, and a row of new cells that is held -/
theorem e_app (st : St w0 M hs w) (i j : Nat) {T E size bytes m len c b : Nat} {x y : Operand} {v z : Value} {xs l : List Value} {fz : Nat × Nat} {ti : TypeInfo} (hw : gd L kn g = some true) (hd : okDst n (some d) = true)
    (hx : evO kn x = some v) (hy : evO kn y = some (.slice (some ⟨b, 0, none⟩) m c)) (hi : nth hs i = some (.own v E size len xs)) (hj : nth hs j = some (.blk b (.cells l.toArray E fz)))
    (ht : P.underlying T = some (.slice E)) (hinfo : P.info? E = some ti) (hz : ti.zero = some z) (hsize : ti.size = size) (hby : ti.bytes = bytes) (hzs : z.cells.size = size) (hsz : Nat.blt 0 size = true)
    (hl : l.length = m * size) (h1 : allOne l = true) (hm : Nat.blt 0 m = true) (h63 : len + m ≤ maxLen) (hbytes : (len + m) * bytes ≤ 140737488355328)
    (next : ∀ oa cap w', St w0 M (setNth hs i (.own (.slice oa (len + m) cap) E size (len + m) (xs ++ l))) w' → vN n N ((d, .slice oa (len + m) cap) :: kn) w') :
    vS P n L Q ⟨some d, .call ⟨.builtin .append, #[x, y], #[T, T]⟩, ty, pos, aft, g⟩ N kn w := by
  have hb : w.heap[b]? = some (.cells l.toArray E fz) := st.res hj
  have hm' : 0 < m := by simpa [Nat.blt_eq] using hm
  obtain ⟨v', w', hr, hown, hg, hnil, hat⟩ := run_append_own_at (P := P) w w0.heap.size T ty E ti z size bytes ht hinfo hz hsize hby hzs (by simpa [Nat.blt_eq] using hsz) v len xs (st.res hi) ⟨b, 0, none⟩ m c l hl
    (fun k u hk => by rw [addr_add]; exact cell_blk hb (by rw [nth_eq]; simpa using hk)) (allOne_spec h1) h63 hbytes st.chg.size
  obtain ⟨oa, cap, rfl⟩ : ∃ oa cap, v' = .slice oa (len + m) cap := by
    rcases hown.2 with ⟨rfl, h0⟩ | ⟨g, cap, cur, rfl, _⟩
    · omega
    · exact ⟨_, _, rfl⟩
  refine e_bi [v, .slice (some ⟨b, 0, none⟩) m c] hw hd (by simp [hx, hy]) (w' := w') (fun cs => ?_) (next oa cap w' (st.app hi hg hown hat))
  simp only [builtin, Sem.run_bind, List.toArray, hr]
  rfl
end
end Sx


/- The engine, sixth part: loads from a row that is owned. -/
namespace Sx
open Go Go.RowKit
set_option linter.unusedVariables false
set_option linter.unusedSimpArgs false
section
variable {w0 w w' : World} {M : List Nat} {hs : List Res}
variable {P : Program} {n : Fr} {L : List Oper} {Q : Exit → Act → World → Prop} {kn : Kn} {N : Act → World → Prop}
variable {d ty : Nat} {pos : String} {aft : Array Edge} {g : Option (Nat × Bool)}

theorem own_cell {base e size len cap b off : Nat} {xs : List Value} {v : Value} (h : w.ownsRow base e size (.slice (some ⟨b, 0, none⟩) len cap) len xs) (hv : xs[off]? = some v) : w.cell? ⟨b, off, none⟩ = some v := by
  have hl : off < xs.length := (List.getElem?_eq_some_iff.1 hv).1
  rw [World.ownsRow.cellAt h off (by rw [← h.1]; exact hl), hv]

theorem own_form {base e size n : Nat} {v : Value} {xs : List Value} (h : w.ownsRow base e size v n xs) (hn : 0 < n) :
    ∃ g cap, v = .slice (some ⟨g, 0, none⟩) n cap ∧ base ≤ g := by
  rcases h.2 with ⟨_, h0⟩ | ⟨g, cap, cur, hv, hb, hg, _⟩
  · omega
  · exact ⟨g, cap, hv, hb⟩

end
end Sx


namespace Go.Proofs.YtnmhlpnapgojjaaDoor
open Go.RowKit Sx LexS
set_option linter.unusedVariables false
set_option linter.unusedSimpArgs false
theorem isName_eq {l : List UInt8} (h0 : l ≠ []) (h1 : l.length ≤ 32) (h2 : isDigit (l.getD 0 0) = false) (h3 : isWord l = false) : isName l = l.all isIdent := by
  match l, h0 with
  | c :: r, _ => simp at h2 h1; simp [isName, h2, h3, h1]
theorem isName_nil {l : List UInt8} (h : l = []) : isName l = false := by subst h; rfl
theorem isName_long {l : List UInt8} (h : 32 < l.length) : isName l = false := by
  match l, h with
  | c :: r, h => simp only [isName]; rw [show decide ((c :: r).length ≤ 32) = false from by simp only [decide_eq_false_iff_not]; omega]; simp
theorem isName_digit {l : List UInt8} (h : isDigit (l.getD 0 0) = true) : isName l = false := by
  match l with
  | [] => rfl
  | c :: r => simp at h; simp [isName, h]
theorem isName_word {l : List UInt8} (h : isWord l = true) : isName l = false := by
  match l with
  | [] => rfl
  | c :: r => simp [isName, h]
theorem all_take_succ {p : UInt8 → Bool} {l : List UInt8} {m : Nat} (hm : m < l.length) (h : (l.take m).all p = true) (hp : p (l.getD m 0) = true) : (l.take (m + 1)).all p = true := by
  rw [List.take_add_one]
  have : l[m]? = some (l.getD m 0) := by simp [List.getD, hm]
  rw [this]
  simp only [List.all_append, h, Option.toList_some, List.all_cons, hp, List.all_nil, Bool.and_self]
theorem all_no {p : UInt8 → Bool} {l : List UInt8} {m : Nat} (hm : m < l.length) (hp : p (l.getD m 0) = false) : l.all p = false := by
  rw [List.all_eq_false]
  refine ⟨l.getD m 0, ?_, by rw [hp]; simp⟩
  rw [show l.getD m 0 = l[m] from by simp [List.getD, hm]]
  exact List.getElem_mem hm
set_option maxHeartbeats 1000000 in
theorem name_any (l : List UInt8) (w : World) : Ret Tryd.prog 36 [str l] w fun v w' => v = .bool (isName l) ∧ w' = w := by
  refine ret_of [_] Tryd.func36 rfl Tryd.ntmps36 rfl ?_
  have st := St.init w []
  refine vc_seq ?_
  refine vc_region ?_
  refine vc_y rfl rfl (y_as rfl) ?_
  refine vc_end ?_
  refine vq_then ?_
  refine vc_keep [(0, _)] ⟨rfl, trivial⟩ ?_
  refine vc_seq ?_
  refine vc_seq ?_
  refine vc_region ?_
  refine vc_y rfl rfl (y_mv rfl) ?_
  refine vc_y rfl rfl (y_eqs rfl rfl) ?_
  refine vc_e (e_mvb rfl rfl rfl ?_ ?_)
  · intro hg6
    try simp only [dn] at hg6
    refine vc_e (e_skip rfl rfl ?_)
    refine vc_e (e_skip rfl rfl ?_)
    refine vc_e (e_skip rfl rfl ?_)
    refine vc_y rfl rfl (y_pickt rfl rfl) ?_
    refine vc_y rfl rfl (y_mv rfl) ?_
    refine vc_e (e_skip rfl rfl ?_)
    refine vc_e (e_skip rfl rfl ?_)
    refine vc_e (e_skip rfl rfl ?_)
    refine vc_y rfl rfl (y_pickt rfl rfl) ?_
    refine vc_y rfl rfl (y_mv rfl) ?_
    refine vc_e (e_skip rfl rfl ?_)
    refine vc_e (e_skip rfl rfl ?_)
    refine vc_y rfl rfl (y_pickt rfl rfl) ?_
    refine vc_end ?_
    refine vq_then ?_
    refine vc_keep [(0, _), (19, _)] ⟨rfl, rfl, trivial⟩ ?_
    refine vc_ift rfl ?_
    refine vc_seq ?_
    refine vc_region ?_
    refine vc_y rfl rfl (y_as rfl) ?_
    refine vc_end ?_
    refine vq_then ?_
    refine vc_keep [(2, _)] ⟨rfl, trivial⟩ ?_
    refine vc_ret ?_
    refine vq_then_ret ?_
    refine vq_ret1 st (.inl rfl) Tryd.results36 (.tmp rfl) ?_
    refine ⟨_, rfl, ?_⟩
    refine ⟨?_, rfl⟩
    rw [Value.bool.injEq]
    first
    | (symm; apply isName_nil; first | assumption | (apply List.eq_nil_of_length_eq_zero; omega))
    | (symm; apply isName_long; omega)
    | (symm; apply isName_digit; assumption)
    | (symm; apply isName_word; assumption)
    | (symm; rw [isName_eq (by first | assumption | (intro h; subst h; simp at *)) (by omega) (by assumption) (by assumption)]; exact all_no (m := m) (by omega) (by simp only [isIdent, *, Bool.or_true, Bool.true_or, Bool.or_self]))
    | (symm; rw [isName_eq (by first | assumption | (intro h; subst h; simp at *)) (by omega) (by assumption) (by assumption)]; rw [List.take_of_length_le (by omega)] at hall; exact hall)
  · intro hg6
    try simp only [dn] at hg6
    refine vc_y rfl rfl (y_mv rfl) ?_
    refine vc_y rfl rfl (y_lens rfl Tryd.underlying9) ?_
    refine vc_y rfl rfl (y_gtr rfl rfl) ?_
    refine vc_y rfl rfl (y_pickf rfl rfl) ?_
    refine vc_e (e_mvb rfl rfl rfl ?_ ?_)
    · intro hg11
      try simp only [dn] at hg11
      refine vc_e (e_skip rfl rfl ?_)
      refine vc_e (e_skip rfl rfl ?_)
      refine vc_e (e_skip rfl rfl ?_)
      refine vc_y rfl rfl (y_pickt rfl rfl) ?_
      refine vc_y rfl rfl (y_mv rfl) ?_
      refine vc_e (e_skip rfl rfl ?_)
      refine vc_e (e_skip rfl rfl ?_)
      refine vc_y rfl rfl (y_pickt rfl rfl) ?_
      refine vc_end ?_
      refine vq_then ?_
      refine vc_keep [(0, _), (19, _)] ⟨rfl, rfl, trivial⟩ ?_
      refine vc_ift rfl ?_
      refine vc_seq ?_
      refine vc_region ?_
      refine vc_y rfl rfl (y_as rfl) ?_
      refine vc_end ?_
      refine vq_then ?_
      refine vc_keep [(2, _)] ⟨rfl, trivial⟩ ?_
      refine vc_ret ?_
      refine vq_then_ret ?_
      refine vq_ret1 st (.inl rfl) Tryd.results36 (.tmp rfl) ?_
      refine ⟨_, rfl, ?_⟩
      refine ⟨?_, rfl⟩
      rw [Value.bool.injEq]
      first
      | (symm; apply isName_nil; first | assumption | (apply List.eq_nil_of_length_eq_zero; omega))
      | (symm; apply isName_long; omega)
      | (symm; apply isName_digit; assumption)
      | (symm; apply isName_word; assumption)
      | (symm; rw [isName_eq (by first | assumption | (intro h; subst h; simp at *)) (by omega) (by assumption) (by assumption)]; exact all_no (m := m) (by omega) (by simp only [isIdent, *, Bool.or_true, Bool.true_or, Bool.or_self]))
      | (symm; rw [isName_eq (by first | assumption | (intro h; subst h; simp at *)) (by omega) (by assumption) (by assumption)]; rw [List.take_of_length_le (by omega)] at hall; exact hall)
    · intro hg11
      try simp only [dn] at hg11
      refine vc_y rfl rfl (y_mv rfl) ?_
      refine vc_y rfl rfl (y_ixs (k := 0) rfl rfl Tryd.underlying9 rfl (by (rcases l with _ | ⟨_, _⟩ <;> simp at * ))) ?_
      refine vc_e (e_call [_] rfl rfl Tryd.call70 rfl (digit_any _ _) ?_)
      rintro _ w ⟨rfl, rfl⟩
      refine vc_y rfl rfl (y_pickf rfl rfl) ?_
      refine vc_e (e_mvb rfl rfl rfl ?_ ?_)
      · intro hg16
        try simp only [dn] at hg16
        refine vc_e (e_skip rfl rfl ?_)
        refine vc_e (e_skip rfl rfl ?_)
        refine vc_y rfl rfl (y_pickt rfl rfl) ?_
        refine vc_end ?_
        refine vq_then ?_
        refine vc_keep [(0, _), (19, _)] ⟨rfl, rfl, trivial⟩ ?_
        refine vc_ift rfl ?_
        refine vc_seq ?_
        refine vc_region ?_
        refine vc_y rfl rfl (y_as rfl) ?_
        refine vc_end ?_
        refine vq_then ?_
        refine vc_keep [(2, _)] ⟨rfl, trivial⟩ ?_
        refine vc_ret ?_
        refine vq_then_ret ?_
        refine vq_ret1 st (.inl rfl) Tryd.results36 (.tmp rfl) ?_
        refine ⟨_, rfl, ?_⟩
        refine ⟨?_, rfl⟩
        rw [Value.bool.injEq]
        first
        | (symm; apply isName_nil; first | assumption | (apply List.eq_nil_of_length_eq_zero; omega))
        | (symm; apply isName_long; omega)
        | (symm; apply isName_digit; assumption)
        | (symm; apply isName_word; assumption)
        | (symm; rw [isName_eq (by first | assumption | (intro h; subst h; simp at *)) (by omega) (by assumption) (by assumption)]; exact all_no (m := m) (by omega) (by simp only [isIdent, *, Bool.or_true, Bool.true_or, Bool.or_self]))
        | (symm; rw [isName_eq (by first | assumption | (intro h; subst h; simp at *)) (by omega) (by assumption) (by assumption)]; rw [List.take_of_length_le (by omega)] at hall; exact hall)
      · intro hg16
        try simp only [dn] at hg16
        refine vc_y rfl rfl (y_mv rfl) ?_
        refine vc_e (e_call [_] rfl rfl Tryd.call71 rfl (word_any _ _) ?_)
        rintro _ w ⟨rfl, rfl⟩
        refine vc_y rfl rfl (y_pickf rfl rfl) ?_
        refine vc_end ?_
        refine vq_then ?_
        refine vc_keep [(0, _), (19, _)] ⟨rfl, rfl, trivial⟩ ?_
        refine vc_ifs rfl ?_ ?_
        · intro hc19
          try simp only [dn] at hc19
          refine vc_seq ?_
          refine vc_region ?_
          refine vc_y rfl rfl (y_as rfl) ?_
          refine vc_end ?_
          refine vq_then ?_
          refine vc_keep [(2, _)] ⟨rfl, trivial⟩ ?_
          refine vc_ret ?_
          refine vq_then_ret ?_
          refine vq_ret1 st (.inl rfl) Tryd.results36 (.tmp rfl) ?_
          refine ⟨_, rfl, ?_⟩
          refine ⟨?_, rfl⟩
          rw [Value.bool.injEq]
          first
          | (symm; apply isName_nil; first | assumption | (apply List.eq_nil_of_length_eq_zero; omega))
          | (symm; apply isName_long; omega)
          | (symm; apply isName_digit; assumption)
          | (symm; apply isName_word; assumption)
          | (symm; rw [isName_eq (by first | assumption | (intro h; subst h; simp at *)) (by omega) (by assumption) (by assumption)]; exact all_no (m := m) (by omega) (by simp only [isIdent, *, Bool.or_true, Bool.true_or, Bool.or_self]))
          | (symm; rw [isName_eq (by first | assumption | (intro h; subst h; simp at *)) (by omega) (by assumption) (by assumption)]; rw [List.take_of_length_le (by omega)] at hall; exact hall)
        · intro hc19
          try simp only [dn] at hc19
          refine vc_code_skip ?_
          refine vq_then ?_
          refine vc_keep [(0, _)] ⟨rfl, trivial⟩ ?_
          refine vc_seq ?_
          refine vc_seq ?_
          refine vc_region ?_
          refine vc_y rfl rfl (y_mv rfl) ?_
          refine vc_y rfl rfl (y_lens rfl Tryd.underlying9) ?_
          refine vc_y rfl rfl (y_mv rfl) ?_
          refine vc_end ?_
          refine vq_then ?_
          refine vc_keep [(0, _), (21, _), (22, _)] ⟨rfl, rfl, rfl, trivial⟩ ?_
          refine vc_block ?_
          refine vc_loop (w0 := _) (M := _) (fun (m : Nat) => [(0, str l), (21, .int .i64 (l.length : Int)), (22, .int .i64 (m : Int))]) (fun _ => []) (fun m w' => m ≤ l.length ∧ (l.take m).all isIdent = true ∧ w' = w) (fun m => l.length - m) 0 ⟨rfl, rfl, rfl, trivial⟩ st ⟨by omega, by simp, rfl⟩ ?_
          rintro m w' ⟨hm, hall, rfl⟩ st
          refine vc_seq ?_
          refine vc_region ?_
          refine vc_y rfl rfl (y_lss rfl rfl) ?_
          refine vc_end ?_
          refine vq_then ?_
          refine vc_keep [(0, _), (21, _), (22, _), (23, _)] ⟨rfl, rfl, rfl, rfl, trivial⟩ ?_
          refine vc_seq ?_
          refine vc_ifs rfl ?_ ?_
          · intro hc23
            try simp only [dn] at hc23
            refine vc_code_skip ?_
            refine vq_then ?_
            refine vc_keep [(0, _), (21, _), (22, _)] ⟨rfl, rfl, rfl, trivial⟩ ?_
            refine vc_seq ?_
            refine vc_block ?_
            refine vc_seq ?_
            refine vc_region ?_
            refine vc_y rfl rfl (y_mv rfl) ?_
            refine vc_y rfl rfl (y_as rfl) ?_
            refine vc_end ?_
            refine vq_then ?_
            refine vc_keep [(0, _), (3, _), (21, _), (22, _)] ⟨rfl, rfl, rfl, rfl, trivial⟩ ?_
            refine vc_seq ?_
            refine vc_region ?_
            refine vc_y rfl rfl (y_mv rfl) ?_
            refine vc_y rfl rfl (y_mv rfl) ?_
            refine vc_y rfl rfl (y_ixs (k := _) rfl rfl Tryd.underlying9 rfl (by omega)) ?_
            refine vc_e (e_call [_] rfl rfl Tryd.call72 rfl (letter_any _ _) ?_)
            rintro _ w ⟨rfl, rfl⟩
            refine vc_y rfl rfl (y_not rfl) ?_
            refine vc_e (e_mvb rfl rfl rfl ?_ ?_)
            · intro hg30
              try simp only [dn] at hg30
              refine vc_y rfl rfl (y_mv rfl) ?_
              refine vc_y rfl rfl (y_mv rfl) ?_
              refine vc_y rfl rfl (y_ixs (k := _) rfl rfl Tryd.underlying9 rfl (by omega)) ?_
              refine vc_e (e_call [_] rfl rfl Tryd.call70 rfl (digit_any _ _) ?_)
              rintro _ w ⟨rfl, rfl⟩
              refine vc_y rfl rfl (y_not rfl) ?_
              refine vc_y rfl rfl (y_pickt rfl rfl) ?_
              refine vc_end ?_
              refine vq_then ?_
              refine vc_keep [(0, _), (21, _), (22, _), (36, _)] ⟨rfl, rfl, rfl, rfl, trivial⟩ ?_
              refine vc_ifs rfl ?_ ?_
              · intro hc36
                try simp only [dn] at hc36
                refine vc_seq ?_
                refine vc_region ?_
                refine vc_y rfl rfl (y_as rfl) ?_
                refine vc_end ?_
                refine vq_then ?_
                refine vc_keep [(2, _)] ⟨rfl, trivial⟩ ?_
                refine vc_ret ?_
                refine vq_block_ret ?_
                refine vq_then_ret ?_
                refine vq_then_ret ?_
                refine vq_block_ret ?_
                refine vq_then_ret ?_
                refine vq_ret1 st (.inl rfl) Tryd.results36 (.tmp rfl) ?_
                refine ⟨_, rfl, ?_⟩
                refine ⟨?_, rfl⟩
                rw [Value.bool.injEq]
                first
                | (symm; apply isName_nil; first | assumption | (apply List.eq_nil_of_length_eq_zero; omega))
                | (symm; apply isName_long; omega)
                | (symm; apply isName_digit; assumption)
                | (symm; apply isName_word; assumption)
                | (symm; rw [isName_eq (by first | assumption | (intro h; subst h; simp at *)) (by omega) (by assumption) (by assumption)]; exact all_no (m := m) (by omega) (by simp only [isIdent, *, Bool.or_true, Bool.true_or, Bool.or_self]))
                | (symm; rw [isName_eq (by first | assumption | (intro h; subst h; simp at *)) (by omega) (by assumption) (by assumption)]; rw [List.take_of_length_le (by omega)] at hall; exact hall)
              · intro hc36
                try simp only [dn] at hc36
                refine vc_code_skip ?_
                refine vq_block ?_
                refine vq_then ?_
                refine vc_keep [(0, _), (21, _), (22, _)] ⟨rfl, rfl, rfl, trivial⟩ ?_
                refine vc_region ?_
                refine vc_y rfl rfl (y_add rfl rfl rfl (by omega) (by omega)) ?_
                refine vc_y rfl rfl (y_mv rfl) ?_
                refine vc_end ?_
                refine vq_again (m + 1) ⟨rfl, rfl, rfl, trivial⟩ st ?_ ?_
                · exact ⟨by omega, all_take_succ (by omega) hall (by simp only [isIdent, *, Bool.or_true, Bool.true_or, Bool.or_self]), rfl⟩
                · omega
            · intro hg30
              try simp only [dn] at hg30
              refine vc_e (e_skip rfl rfl ?_)
              refine vc_e (e_skip rfl rfl ?_)
              refine vc_e (e_skip rfl rfl ?_)
              refine vc_e (e_skip rfl rfl ?_)
              refine vc_e (e_skip rfl rfl ?_)
              refine vc_y rfl rfl (y_pickf rfl rfl) ?_
              refine vc_end ?_
              refine vq_then ?_
              refine vc_keep [(0, _), (21, _), (22, _), (36, _)] ⟨rfl, rfl, rfl, rfl, trivial⟩ ?_
              refine vc_iff rfl ?_
              refine vc_code_skip ?_
              refine vq_block ?_
              refine vq_then ?_
              refine vc_keep [(0, _), (21, _), (22, _)] ⟨rfl, rfl, rfl, trivial⟩ ?_
              refine vc_region ?_
              refine vc_y rfl rfl (y_add rfl rfl rfl (by omega) (by omega)) ?_
              refine vc_y rfl rfl (y_mv rfl) ?_
              refine vc_end ?_
              refine vq_again (m + 1) ⟨rfl, rfl, rfl, trivial⟩ st ?_ ?_
              · exact ⟨by omega, all_take_succ (by omega) hall (by simp only [isIdent, *, Bool.or_true, Bool.true_or, Bool.or_self]), rfl⟩
              · omega
          · intro hc23
            try simp only [dn] at hc23
            refine vc_exit ?_
            refine vq_then_exit ?_
            refine vq_then_exit ?_
            refine vq_block_exit ?_
            refine vq_then ?_
            refine vc_keep [] trivial ?_
            refine vc_seq ?_
            refine vc_region ?_
            refine vc_y rfl rfl (y_as rfl) ?_
            refine vc_end ?_
            refine vq_then ?_
            refine vc_keep [(2, _)] ⟨rfl, trivial⟩ ?_
            refine vc_ret ?_
            refine vq_ret1 st (.inl rfl) Tryd.results36 (.tmp rfl) ?_
            refine ⟨_, rfl, ?_⟩
            refine ⟨?_, rfl⟩
            rw [Value.bool.injEq]
            first
            | (symm; apply isName_nil; first | assumption | (apply List.eq_nil_of_length_eq_zero; omega))
            | (symm; apply isName_long; omega)
            | (symm; apply isName_digit; assumption)
            | (symm; apply isName_word; assumption)
            | (symm; rw [isName_eq (by first | assumption | (intro h; subst h; simp at *)) (by omega) (by assumption) (by assumption)]; exact all_no (m := m) (by omega) (by simp only [isIdent, *, Bool.or_true, Bool.true_or, Bool.or_self]))
            | (symm; rw [isName_eq (by first | assumption | (intro h; subst h; simp at *)) (by omega) (by assumption) (by assumption)]; rw [List.take_of_length_le (by omega)] at hall; exact hall)

end Go.Proofs.YtnmhlpnapgojjaaDoor


/- Blanks and remarks between tokens: no program in sight. -/
namespace LexS
set_option linter.unusedVariables false
set_option linter.unusedSimpArgs false

/-- a token elsewhere -/
def moved (d : Nat) (t : Tok) : Tok := ⟨t.kind, t.text, t.word, d⟩
end LexS


/- Tokens, their places left out: no program in sight. -/
namespace LexS
set_option linter.unusedVariables false
set_option linter.unusedSimpArgs false
/-- one token behind another, places left out -/
def SameN (A B : List Tok) : Prop := A.map (fun t => (t.kind, t.text, t.word)) = B.map (fun t => (t.kind, t.text, t.word))
theorem SameN.cons {A B : List Tok} (h : SameN A B) (t : Tok) (d : Nat) : SameN (t :: A) (moved d t :: B) := by
  unfold SameN at *; simp only [List.map_cons, h]; rfl
end LexS


/- Plain laws on tokens that are told: which are right, and that printed they are cut again. -/
namespace LexS
end LexS


/- Plain laws on numbers as texts: they are cut as one number. -/
namespace LexS
def decF : Nat → Nat → List UInt8
  | 0, n => [UInt8.ofNat (48 + n % 10)]
  | k + 1, n => if n < 10 then [UInt8.ofNat (48 + n)] else decF k (n / 10) ++ [UInt8.ofNat (48 + n % 10)]
/-- a number's digits -/
def dec (n : Nat) : List UInt8 := decF n n
theorem decF_fuel : ∀ (k j n : Nat), n ≤ k → n ≤ j → decF k n = decF j n
  | 0, 0, n, _, _ => rfl
  | 0, j + 1, n, h, _ => by
    obtain rfl : n = 0 := by omega
    simp [decF]
  | k + 1, 0, n, _, h => by
    obtain rfl : n = 0 := by omega
    simp [decF]
  | k + 1, j + 1, n, h1, h2 => by
    simp only [decF]
    split
    · rfl
    · rw [decF_fuel k j (n / 10) (by omega) (by omega)]
theorem dec_small {n : Nat} (h : n < 10) : dec n = [UInt8.ofNat (48 + n)] := by
  unfold dec
  cases n with
  | zero => rfl
  | succ n => simp only [decF]; rw [if_pos h]
theorem dec_big {n : Nat} (h : 10 ≤ n) : dec n = dec (n / 10) ++ [UInt8.ofNat (48 + n % 10)] := by
  unfold dec
  obtain ⟨m, rfl⟩ : ∃ m, n = m + 1 := ⟨n - 1, by omega⟩
  simp only [decF]
  rw [if_neg (by omega), decF_fuel m ((m + 1) / 10) _ (by omega) (by omega)]
theorem digit_of {d : Nat} (h : d < 10) : isDigit (UInt8.ofNat (48 + d)) = true ∧ (UInt8.ofNat (48 + d)).toNat = 48 + d := by
  have e : (UInt8.ofNat (48 + d)).toNat = 48 + d := by
    rw [UInt8.toNat_ofNat']; omega
  refine ⟨?_, e⟩
  simp only [isDigit, decide_eq_true_eq, e]; omega
theorem dec_ind (P : Nat → Prop) (h1 : ∀ n, n < 10 → P n) (h2 : ∀ n, 10 ≤ n → P (n / 10) → P n) (n : Nat) : P n := by
  induction n using Nat.strongRecOn with
  | _ n ih =>
    rcases Nat.lt_or_ge n 10 with h | h
    · exact h1 n h
    · exact h2 n h (ih (n / 10) (by omega))
theorem dec_pos (n : Nat) : 1 ≤ (dec n).length := by
  refine dec_ind (fun n => 1 ≤ (dec n).length) (fun n h => ?_) (fun n h ih => ?_) n
  · rw [dec_small h]; simp
  · rw [dec_big h]; simp
theorem dec_len (k : Nat) : ∀ n, n < 10 ^ (k + 1) → (dec n).length ≤ k + 1 := by
  induction k with
  | zero => intro n h; rw [dec_small (by simpa using h)]; simp
  | succ k ih =>
    intro n h
    rcases Nat.lt_or_ge n 10 with h1 | h1
    · rw [dec_small h1]; simp
    · rw [dec_big h1]
      have := ih (n / 10) (by rw [Nat.div_lt_iff_lt_mul (by omega)]; rw [Nat.pow_succ] at h; exact h)
      simp; omega
/-- a word's text -/
def shw (w : Int) : List UInt8 := if w < 0 then 45 :: dec w.natAbs else dec w.natAbs
end LexS


/- The operators, their signs and levels: no program in sight. -/
namespace LexS
set_option linter.unusedVariables false
set_option linter.unusedSimpArgs false
/-- the operators' signs and levels -/
def sgnT : List (List UInt8 × Int) := [([], 0), ([43], 7), ([45], 7), ([42], 8), ([47], 8), ([37], 8), ([38], 3), ([124], 1), ([94], 2), ([60, 60], 6), ([62, 62], 6), ([61, 61], 4), ([33, 61], 4), ([60], 5), ([60, 61], 5), ([62], 5), ([62, 61], 5), ([45], 9), ([33], 9)]
def sgn (k : Nat) : List UInt8 := (sgnT.getD k ([], 0)).1
def lvl (k : Nat) : Int := (sgnT.getD k ([], 0)).2
def knownOp (k : Int) : Bool := decide (0 < k ∧ k < 19)
def twoOp (k : Int) : Bool := decide (0 < k ∧ k < 17)
def shwO (k : Int) : List UInt8 := if knownOp k = true then sgn k.toNat else []
def lvlO (k : Int) : Int := if knownOp k = true then lvl k.toNat else 0
theorem shwO_len' : ∀ m, m < 19 → (sgn m).length ≤ 2 := by decide
theorem shwO_len (k : Int) : (shwO k).length ≤ 2 := by
  unfold shwO
  split
  · rename_i h
    simp [knownOp] at h
    exact shwO_len' _ (by omega)
  · simp
def oneOp (k : Int) : Bool := decide (k = 17 ∨ k = 18)
end LexS


/- The engine, seventh part: append of a row that can be read; stores into a row that is owned; slice literals. -/
namespace Sx
open Go Go.RowKit
set_option linter.unusedVariables false
set_option linter.unusedSimpArgs false
section
variable {w0 w w' : World} {M : List Nat} {hs : List Res}
variable {P : Program} {n : Fr} {L : List Oper} {Q : Exit → Act → World → Prop} {kn : Kn} {N : Act → World → Prop}
variable {d ty : Nat} {pos : String} {aft : Array Edge} {g : Option (Nat × Bool)}

/-- a row that can be read -/
def RdRow (w : World) (oa : Option Addr) (c : Nat) (l : List Value) : Prop := (oa = none ∧ l = [] ∧ c = 0) ∨ ∃ a, oa = some a ∧ ∀ k u, l[k]? = some u → w.cell? (a.add k) = some u

theorem RdRow.kept {oa : Option Addr} {c : Nat} {l : List Value} (h : RdRow w oa c l) (k : Chg [] w w') : RdRow w' oa c l :=
  h.imp id fun ⟨a, e, hc⟩ => ⟨a, e, fun i u hi => k.cell (hc i u hi) (by simp)⟩

/-- a slice literal, by its run -/
theorem e_bsn (st : St w0 M hs w) {T E len : Nat} {parts : Array (Nat × Operand)} {l : List Value} (vals : List (Nat × Value)) (hw : gd L kn g = some true) (hd : okDst n (some d) = true)
    (hv : parts.toList.map (fun p => (evO kn p.2).map (p.1, ·)) = vals.map some)
    (hrun : ∀ w, (Instr.buildSlice T len vals.toArray).run P w = .ok (.slice (some ⟨w.heap.size, 0, none⟩) len len) (w.alloc (.cells l.toArray E (0, 0))))
    (next : ∀ b w', w0.heap.size ≤ b → St w0 M (.blk b (.cells l.toArray E (0, 0)) :: hs) w' → vN n N ((d, .slice (some ⟨b, 0, none⟩) len len) :: kn) w') :
    vS P n L Q ⟨some d, .buildSlice T len parts, ty, pos, aft, g⟩ N kn w := by
  refine e_new st (v := .slice (some ⟨w.heap.size, 0, none⟩) len len) (l := l) (E := E) hw hd (fun a ha => ?_) (fun b w' e hb st' => by subst e; exact next _ w' hb st')
  have hargs : (parts.map fun (i, x) => (i, a.eval x)) = vals.toArray := by
    apply Array.toList_inj.1
    rw [Array.toList_map]
    generalize parts.toList = az at hv
    simp only
    clear hrun
    induction az generalizing vals with
    | nil => cases vals with | nil => rfl | cons v vs => simp at hv
    | cons x xs ih =>
      cases vals with
      | nil => simp at hv
      | cons v vs =>
        simp only [List.map_cons, List.cons.injEq] at hv
        obtain ⟨h1, h2⟩ := hv
        cases hx : evO kn x.2 with
        | none => simp [hx] at h1
        | some u =>
          simp only [hx, Option.map_some, Option.some.injEq] at h1
          subst h1
          simp only [List.map_cons, ha.ev hx, ih vs h2]
  simp only [execOp, hargs, Sem.run_bind, hrun, Result.andThen_ok, Sem.run_pure]

end
end Sx


/- The engine, twelfth part: slices of slices; what a row that is owned reads as. -/
namespace Sx
open Go Go.RowKit
set_option linter.unusedVariables false
set_option linter.unusedSimpArgs false
section
variable {w0 w w' : World} {M : List Nat} {hs : List Res}
variable {P : Program} {n : Fr} {L : List Oper} {Q : Exit → Act → World → Prop} {kn : Kn} {N : Act → World → Prop}
variable {d ty : Nat} {pos : String} {aft : Array Edge} {g : Option (Nat × Bool)}

theorem addr_add0 (a : Addr) : a.add 0 = a := by unfold Addr.add; simp

/-- x[:j] of a slice -/
theorem y_slh {x hi : Operand} {T E sz j len cap : Nat} {oa : Option Addr} {jk : IntKind} {jj : Int} (hx : evO kn x = some (.slice oa len cap))
  (hhi : evO kn hi = some (.int jk jj)) (ht : P.underlying T = some (.slice E)) (hs : ∀ w, (Go.sizeOf E).run P w = .ok sz w) (hj1 : jj = (j : Int)) (hj : j ≤ cap) : Y P n kn w ⟨some d, .slice T x none (some hi) none, ty, pos, aft, g⟩ (.slice oa j cap) :=
  (fun a ha => by
    subst hj1
    have h2 : (j : Int) ≤ (cap : Int) := by omega
    simp only [execOp, Option.map_some, Option.map_none, ha.ev hx, ha.ev hhi]
    simp only [Instr.sliceAt, Instr.slice, Instr.sliceBounds, Instr.sliceBound, asIntOf, Sem.run_bind, run_underlying ht, Result.andThen_ok, hs]
    simp [hj, hs]
    intro _; cases oa <;> simp [addr_add0])
end
end Sx


/- The engine, thirteenth part: bytes: append of a string's, a string of bytes; max; make. -/
namespace Sx
open Go Go.RowKit Go.Lib
set_option linter.unusedVariables false
set_option linter.unusedSimpArgs false

abbrev bytesL (l : List UInt8) : List Value := l.map fun b => Value.int .u8 (b.toNat : Int)
theorem strCells_eq (l : List UInt8) : strCells ⟨l.toArray⟩ = bytesL l := by simp [strCells]

section
variable {w0 w w' : World} {M : List Nat} {hs : List Res}
variable {P : Program} {n : Fr} {L : List Oper} {Q : Exit → Act → World → Prop} {kn : Kn} {N : Act → World → Prop}
variable {d ty : Nat} {pos : String} {aft : Array Edge} {g : Option (Nat × Bool)}

/-- a row that can be read, at a plain address -/
def RdRowP (w : World) (oa : Option Addr) (c : Nat) (l : List Value) : Prop := (oa = none ∧ l = [] ∧ c = 0) ∨ ∃ b off, oa = some ⟨b, off, none⟩ ∧ ∀ k u, l[k]? = some u → w.cell? ⟨b, off + k, none⟩ = some u
theorem own_rdp {base e size m c : Nat} {oa : Option Addr} {xs : List Value} (h : w.ownsRow base e size (.slice oa m c) m xs) : RdRowP w oa c xs := by
  rcases Nat.eq_zero_or_pos m with hm | hm
  · subst hm
    have h0 : xs = [] := by apply List.eq_nil_of_length_eq_zero; rw [h.1]; simp
    subst h0
    rcases h.2 with ⟨e, _⟩ | ⟨g, cap, cur, e, _⟩
    · simp only [Value.slice.injEq] at e; exact .inl ⟨e.1, rfl, e.2.2⟩
    · simp only [Value.slice.injEq] at e; exact .inr ⟨g, 0, e.1, fun k u hk => by simp at hk⟩
  · obtain ⟨g, cap, e, _⟩ := own_form h hm
    simp only [Value.slice.injEq] at e
    obtain ⟨rfl, -, rfl⟩ := e
    exact .inr ⟨g, 0, rfl, fun k u hk => by rw [Nat.zero_add]; exact own_cell h hk⟩
theorem app_str (base : Nat) {T U tyy E : Nat} {ti : TypeInfo} (ht : P.underlying T = some (.slice E)) (hu : P.underlying U = some .string) (hi : P.info? E = some ti) (hz : ti.zero = some (.int .u8 0)) (hsize : ti.size = 1) (hby : ti.bytes = 1)
    {v : Value} {m : Nat} {xs : List Value} (hown : w.ownsRow base E 1 v m xs) (p : List UInt8) (h63 : m + p.length ≤ maxLen) (hbytes : m + p.length ≤ 140737488355328) (hbase : base ≤ w.heap.size) :
    ∃ v' w', (Builtin.append_ #[T, U] tyy #[v, str p]).run P w = .ok v' w' ∧ w'.ownsRow base E 1 v' (m + p.length) (xs ++ bytesL p) ∧ w.grownBy w' v.ownBlock ∧ (∀ k, v'.ownBlock = some k → v.ownBlock = some k ∨ w.heap.size ≤ k) := by
  have hs : (⟨p.toArray⟩ : ByteArray).size = p.length := rfl
  obtain ⟨v', w', hr, ho, hg, hn⟩ := run_append_own_string (P := P) (ty := tyy) w base T U E ti ht hu hi hz hsize hby v m xs hown ⟨p.toArray⟩ h63 hbytes hbase
  rw [strCells_eq, hs] at ho
  refine ⟨v', w', hr, ho, hg, fun k hk => ?_⟩
  rcases hown.2 with ⟨rfl, rfl⟩ | ⟨b, cap, cur, rfl, hbg, hb, hnc, hcm, hcs, htake⟩
  · have hx : xs = [] := List.eq_nil_of_length_eq_zero (by simpa using hown.1)
    subst hx
    obtain ⟨v2, w2, hr2, ho2, _⟩ := run_append_own_string (P := P) (ty := tyy) w w.heap.size T U E ti ht hu hi hz hsize hby _ 0 [] (World.ownsRow_nil w _ E 1) ⟨p.toArray⟩ h63 hbytes (Nat.le_refl _)
    rw [hr] at hr2
    cases hr2
    exact .inr (World.ownsRow.lt ho2 k hk).1
  · have hcs' : cur.size = cap := by simpa using hcs
    have hxl : xs.length = m := by simpa using hown.1
    by_cases hroom : m + p.length ≤ cap
    · have hr2 := run_append_room_string (P := P) (ty := tyy) w T U E ti ht hu hi hsize b m cap cur hb ⟨p.toArray⟩ hroom (by rw [hs]; omega)
      rw [hr] at hr2
      cases hr2
      exact .inl hk
    · have hc : ∀ j u, xs[j]? = some u → w.cell? ((⟨b, 0, none⟩ : Addr).add j) = some u := World.ownsRow.cells hown rfl
      have hr2 := run_append_grow_string (P := P) (ty := tyy) w T U E ti (.int .u8 0) ht hu hi hz ⟨b, 0, none⟩ m cap xs (by rw [hsize]; simpa using hxl) hc ⟨p.toArray⟩ (by rw [hs]; omega) (by unfold maxLen at h63; omega) (by rw [hby]; exact growslice_fits (by omega) (by omega))
      rw [hr] at hr2
      cases hr2
      simp only [Value.ownBlock] at hk
      simp at hk
      exact .inr (by omega)

/-- string(bytes) -/
theorem y_b2s {x : Operand} {T U E m c : Nat} {oa : Option Addr} {p : List UInt8} (hx : evO kn x = some (.slice oa m c)) (hrd : RdRowP w oa c (bytesL p)) (hm : p.length = m)
    (ht : P.underlying T = some (.slice E)) (he : P.underlying E = some (.int .u8)) (hu : P.underlying U = some .string) : Y P n kn w ⟨some d, .convert T U x, ty, pos, aft, g⟩ (str p) := fun a ha => by
  simp only [execOp, ha.ev hx]
  rcases hrd with ⟨rfl, h0, rfl⟩ | ⟨b, off, rfl, hc⟩
  · obtain rfl : p = [] := by simpa [bytesL] using h0
    have := run_convert_bytes_nil (P := P) w T E ht he m 0 U hu
    simp [this]
    rfl
  · have := run_convert_bytes_arg (P := P) w T E ht he b off m c (p.map fun b => (b.toNat : Int)) (by simpa using hm) (fun i hi => by
      have hi' : i < p.length := by omega
      have h := hc i (.int .u8 (p[i].toNat : Int)) (by simp [bytesL, hi'])
      rw [h]
      simp [List.getD, hi']) U hu
    have e : strOfNums (p.map fun b => (b.toNat : Int)) = ⟨p.toArray⟩ := by
      simp [strOfNums, Function.comp_def]
    simp [this, e]

end
end Sx
namespace Sx
open Go Go.RowKit
section
variable {w0 w : World} {M : List Nat} {hs : List Res}
def pickL {α : Type} (l : List α) : List Nat → Option (List α)
  | [] => some []
  | i :: is => match nth l i with | none => none | some x => match pickL l is with | none => none | some r => some (x :: r)
theorem apart_nth {hs : List Res} (h : Apart hs) : ∀ {i j : Nat} {r s : Res}, i ≠ j → nth hs i = some r → nth hs j = some s → ∀ k ∈ r.at?, k ∉ s.at? := by
  induction hs with
  | nil => intro i j r s _ h; simp [nth] at h
  | cons x xs ih =>
    intro i j r s hij hi hj k hk hk'
    have hp := List.pairwise_cons.1 h
    cases i with
    | zero =>
      cases j with
      | zero => exact hij rfl
      | succ j => simp [nth] at hi hj; subst hi; exact hp.1 s (mem_nth hj) k hk hk'
    | succ i =>
      cases j with
      | zero => simp [nth] at hi hj; subst hj; exact hp.1 r (mem_nth hi) k hk' hk
      | succ j => simp [nth] at hi hj; exact ih hp.2 (by omega) hi hj k hk hk'
theorem mem_pick {α : Type} {l : List α} : ∀ {is : List Nat} {r : List α}, pickL l is = some r → ∀ x ∈ r, ∃ i ∈ is, nth l i = some x
  | [], r, h, x, hx => by simp [pickL] at h; subst h; simp at hx
  | i :: is, r, h, x, hx => by
    simp only [pickL] at h
    split at h
    · cases h
    · rename_i y hy
      split at h
      · cases h
      · rename_i q hq
        cases h
        rcases List.mem_cons.1 hx with rfl | hx
        · exact ⟨i, .head _, hy⟩
        · obtain ⟨j, hj, hn⟩ := mem_pick hq x hx
          exact ⟨j, .tail _ hj, hn⟩
/-- some of what is held, in another order -/
theorem St.pick (st : St w0 M hs w) (is : List Nat) {hs' : List Res} (h : pickL hs is = some hs') (hn : is.Nodup) : St w0 M hs' w := by
  refine ⟨st.chg, ?_, fun r hr => ?_⟩
  · have hnd := st.nodup
    clear st
    induction is generalizing hs' with
    | nil => simp [pickL] at h; subst h; exact List.Pairwise.nil
    | cons i is ih =>
      simp only [pickL] at h
      split at h
      · cases h
      · rename_i y hy
        split at h
        · cases h
        · rename_i q hq
          cases h
          have hn' := List.nodup_cons.1 hn
          refine List.pairwise_cons.2 ⟨fun s hs k hk => ?_, ih hq hn'.2⟩
          obtain ⟨j, hj, hs⟩ := mem_pick hq s hs
          exact apart_nth hnd (fun e => hn'.1 (by subst e; exact hj)) hy hs k hk
  · obtain ⟨i, _, hi⟩ := mem_pick h r hr
    exact st.here r (mem_nth hi)
end
end Sx


/- The engine, sixteenth part: arrays that are values; arrays in memory; the neg of a number. -/
namespace Sx
open Go Go.RowKit
set_option linter.unusedVariables false
set_option linter.unusedSimpArgs false
section
variable {w0 w w' : World} {M : List Nat} {hs : List Res}
variable {P : Program} {n : Fr} {L : List Oper} {Q : Exit → Act → World → Prop} {kn : Kn} {N : Act → World → Prop}
variable {d ty : Nat} {pos : String} {aft : Array Edge} {g : Option (Nat × Bool)}

theorem y_neg {T : Nat} {x : Operand} {k : IntKind} {p r : Int} (hx : evO kn x = some (.int k p)) (hr : k.wrap (0 - p) = r) : Y P n kn w ⟨some d, .unOp .neg T x, ty, pos, aft, g⟩ (.int k r) := fun a ha => by
  subst hr
  simp only [execOp, ha.ev hx]
  simp [Op.unary, Op.intArith, go_sem]
theorem run_part1 {T off : Nat} {cs : List Value} {v : Value} (ha : ∀ w, (Go.isAgg T).run P w = .ok false w) (hv : nth cs off = some v) : (part T cs.toArray off).run P w = .ok v w := by
  rw [nth_eq] at hv
  unfold part
  simp [ha, hv]
/-- a[i:] of an array in memory -/
theorem y_sla {T E i sz len b off : Nat} {x lo : Operand} {ik : IntKind} {ii : Int} (hx : evO kn x = some (.pointer (some ⟨b, off, none⟩))) (hlo : evO kn lo = some (.int ik ii)) (ht : P.underlying T = some (.array len E))
    (hs : ∀ w, (Go.sizeOf E).run P w = .ok sz w) (hi : ii = (i : Int)) (hlt : i < len) : Y P n kn w ⟨some d, .slice T x (some lo) none none, ty, pos, aft, g⟩ (.slice (some ⟨b, off + i * sz, none⟩) (len - i) (len - i)) := fun a hk => by
  subst hi
  have h1 : i ≤ len := by omega
  have h2 : ¬ len = i := by omega
  simp only [execOp, Option.map_some, Option.map_none, hk.ev hx, hk.ev hlo]
  simp [Instr.sliceAt, Instr.sliceBounds, Instr.sliceBound, asIntOf, run_underlying ht, Instr.sureAddr, h1, h2, hs, addr_add]
/-- a store into a block that is known, at a place that is reckoned -/
theorem e_sta (st : St w0 M hs w) (i : Nat) {x y : Operand} {T b off E : Nat} {l l' : List Value} {v : Value} (hw : gd L kn g = some true) (hx : evO kn x = some (.pointer (some ⟨b, off, none⟩)))
    (hy : evO kn y = some v) (h1 : v.oneCell' = true) (hsz : ∀ w, (Go.sizeOf T).run P w = .ok 1 w)
    (hi : nth hs i = some (.blk b (.cells l.toArray E (0, 0)))) (hlt : off < l.length) (hl : l.set off v = l') (hm : b ∈ M ∨ w0.heap.size ≤ b)
    (next : ∀ w', St w0 M (setNth hs i (.blk b (.cells l'.toArray E (0, 0)))) w' → vN n N kn w') : vS P n L Q (⟨none, .store T x y, ty, pos, aft, g⟩) N kn w := by
  refine e_st st i hw hx hy h1 hsz hi (by simpa [Nat.blt_eq] using hlt) hm (fun w' st' => next w' ?_)
  rw [setNth_eq l off v, hl] at st'
  exact st'
end
end Sx


/- The engine, fourteenth part: arguments opened, and shut as they were. -/
namespace Sx
open Go Go.RowKit
set_option linter.unusedVariables false
set_option linter.unusedSimpArgs false

theorem exists_list {α : Type} (d : α) : ∀ (n : Nat) (P : Nat → α → Prop), (∀ i, i < n → ∃ x, P i x) → ∃ l : List α, l.length = n ∧ ∀ i, i < n → P i (l.getD i d)
  | 0, P, h => ⟨[], rfl, fun i hi => by omega⟩
  | n + 1, P, h => by
    obtain ⟨x, hx⟩ := h 0 (by omega)
    obtain ⟨l, hl, hP⟩ := exists_list d n (fun i => P (i + 1)) (fun i hi => h (i + 1) (by omega))
    refine ⟨x :: l, by simp [hl], fun i hi => ?_⟩
    cases i with
    | zero => simpa using hx
    | succ i => simpa using hP i (by omega)

section
variable {H : Type} {enc : TypeId × Value → H} {P : Program}

theorem trod_shut (hl : laidOutB P = true) {w w' : World} (hb : Below w.heap.size w w') {t : TypeId} {v : Value} {d : DataW H} {ps : List MemPlace} (hr : P.readableRec t = true) (ht : t < P.types.size)
    (h : DataW.Trod enc P w 0 (fun _ => true) true t v d ps) (hlt : ∀ x ∈ ps, x.block < w.heap.size) : DataW.Trod enc P w' 0 (fun b => decide (b < w.heap.size)) true t v d ps := by
  obtain ⟨fuel, hf⟩ := h
  exact ⟨fuel, DataW.trod_stays (kids_book hl hr) (book_sized hr) (fun h => by cases h) ⟨ht, book_self t⟩ hf (fun x hx => hb.same (hlt x hx)) (fun x hx => by simpa using hlt x hx)⟩

/-- all arguments read as they did, where nothing that was there has changed -/
theorem trodAll_shut (hl : laidOutB P = true) {w w' : World} (hb : Below w.heap.size w w') : ∀ {ts : List TypeId} {vs : List Value} {ds : List (DataW H)} {ps : List MemPlace}, (ts.all fun t => P.readableRec t && decide (t < P.types.size)) = true →
    DataW.TrodAll enc P w 0 (fun _ => true) true ts vs ds ps → (∀ x ∈ ps, x.block < w.heap.size) → DataW.TrodAll enc P w' 0 (fun b => decide (b < w.heap.size)) true ts vs ds ps
  | [], [], [], ps, _, h, _ => h
  | t :: ts, v :: vs, d :: ds, ps, hr, h, hlt => by
    obtain ⟨p, q, h1, h2, rfl⟩ := h
    simp only [List.all_cons, Bool.and_eq_true, decide_eq_true_eq] at hr
    exact ⟨p, q, trod_shut hl hb hr.1.1 hr.1.2 h1 (fun x hx => hlt x (List.mem_append.2 (.inl hx))), trodAll_shut hl hb (by simpa using hr.2) h2 (fun x hx => hlt x (List.mem_append.2 (.inr hx))), rfl⟩
  | [], [], _ :: _, _, _, h, _ => h.elim
  | [], _ :: _, _, _, _, h, _ => h.elim
  | _ :: _, [], _, _, _, h, _ => h.elim
  | _ :: _, _ :: _, [], _, _, h, _ => h.elim

/-- a slice of structs -/
theorem open_row {w : World} {fuel : Nat} {t e : TypeId} {sz : Nat} {v : Value} {d : DataW H} {ps : List MemPlace} (ht : P.underlying t = some (.slice e)) (hsz : P.cellsOf e = sz) (h0 : 0 < sz)
    (h : DataW.trod enc P w 0 (fun _ => true) true fuel t [v] = some (d, ps)) : ∃ (oa : Option Addr) (len cap n : Nat) (elems rest : List (DataW H)), v = .slice oa len cap ∧ elems.length = len ∧ len ≤ cap ∧ cap ≤ maxLen ∧ n < fuel ∧
      ((d = .nil ∧ len = 0 ∧ cap = 0 ∧ oa = none) ∨ d = .slice elems rest) ∧ (len = 0 ∨ ∃ b off, oa = some ⟨b, off, none⟩ ∧ ∀ j, j < len → ∃ cs pp dd, cs.length = sz ∧ elems[j]? = some dd ∧ DataW.trod enc P w 0 (fun _ => true) true n e cs = some (dd, pp) ∧
        ∀ i u, cs[i]? = some u → w.cell? ⟨b, off + j * sz + i, none⟩ = some u) := by
  rcases DataW.trod_slice ht h with ⟨hc, hx⟩ | ⟨a, len, cap, elems, rest, n, rfl, hc, hx, hb, hlc, hcm, hlen, hel, -⟩
  · simp only [List.cons.injEq, and_true] at hc
    subst hc
    simp only [Prod.mk.injEq] at hx
    have hf : 0 < fuel := by
      cases fuel with
      | zero => simp [DataW.trod] at h
      | succ m => omega
    exact ⟨none, 0, 0, 0, [], [], rfl, rfl, Nat.le_refl _, Nat.zero_le _, hf, .inl ⟨hx.1, rfl, rfl, rfl⟩, .inl rfl⟩
  · simp only [List.cons.injEq, and_true] at hc
    subst hc
    simp only [Prod.mk.injEq] at hx
    refine ⟨some a, len, cap, n, elems.map (·.1), rest.map (·.1), rfl, by simpa using hlen, hlc, hcm, by omega, .inr hx.1, ?_⟩
    rcases Nat.eq_zero_or_pos len with hl0 | hl0
    · exact .inl hl0
    right
    have each : ∀ j, j < len → ∃ cs pp dd, cs.length = sz ∧ (elems.map (·.1))[j]? = some dd ∧ DataW.trod enc P w 0 (fun _ => true) true n e cs = some (dd, pp) ∧ ∀ i u, cs[i]? = some u → w.cell? ((a.add (j * sz)).add i) = some u := by
      intro j hj
      have h1 := hel j hj
      rw [hsz, List.getElem?_eq_getElem (by omega : j < elems.length), Option.bind_eq_some_iff] at h1
      obtain ⟨cs, hcs, htr⟩ := h1
      obtain ⟨-, hcl, hcell⟩ := World.cells?_some hcs
      refine ⟨cs, elems[j].2, elems[j].1, hcl, by simp [List.getElem?_eq_getElem (by omega : j < elems.length)], htr, fun i u hi => ?_⟩
      have hlt : i < sz := by have := (List.getElem?_eq_some_iff.1 hi).1; omega
      rw [hcell i hlt, hi]
    obtain ⟨b, off, spot⟩ := a
    have hspot : spot = none := by
      obtain ⟨cs, pp, dd, hcl, -, -, hc⟩ := each 0 hl0
      have : 0 < cs.length := by omega
      have h2 := hc 0 cs[0] (by simp [this])
      rw [Nat.zero_mul, addr_add0, addr_add0] at h2
      exact World.cell?_spot h2
    subst hspot
    refine ⟨b, off, rfl, fun j hj => ?_⟩
    obtain ⟨cs, pp, dd, hcl, he, htr, hc⟩ := each j hj
    refine ⟨cs, pp, dd, hcl, he, htr, fun i u hi => ?_⟩
    have := hc i u hi
    rwa [addr_add, addr_add] at this
end
end Sx


namespace Go.Proofs.YtnmhlpnapgojjaaDoor
open Go.RowKit Sx LexS
set_option linter.unusedVariables false
set_option linter.unusedSimpArgs false
/-- the table of signs lies where the program has it -/
def Sig (w : World) : Prop := ∀ k, k < 19 → w.cell? ⟨0, k * 2, none⟩ = some (str (sgn k)) ∧ w.cell? ⟨0, k * 2 + 1, none⟩ = some (.int .i64 (lvl k))
theorem Sig.kept {w w' : World} (h : Sig w) (c : Chg [] w w') : Sig w' := fun k hk => ⟨c.cell (h k hk).1 (by simp), c.cell (h k hk).2 (by simp)⟩

theorem known_any (k : Int) (w : World) : Ret Tryd.prog 120 [.int .u8 k] w fun v w' => v = .bool (knownOp k) ∧ w' = w := by
  refine ret_of [_] Tryd.func120 rfl Tryd.ntmps120 rfl ?_
  have st := St.init w []
  refine vc_seq ?_
  refine vc_region ?_
  refine vc_y rfl rfl (y_as rfl) ?_
  refine vc_end ?_
  refine vq_then ?_
  refine vc_keep [(0, _)] ⟨rfl, trivial⟩ ?_
  refine vc_seq ?_
  refine vc_region ?_
  refine vc_y rfl rfl (y_mv rfl) ?_
  refine vc_y rfl rfl (y_gtr rfl rfl) ?_
  refine vc_e (e_mvb rfl rfl rfl ?_ ?_)
  · intro hg5
    try simp only [dn] at hg5
    refine vc_y rfl rfl (y_mv rfl) ?_
    refine vc_y rfl rfl (y_lss rfl rfl) ?_
    refine vc_y rfl rfl (y_pickt rfl rfl) ?_
    refine vc_y rfl rfl (y_as rfl) ?_
    refine vc_end ?_
    refine vq_then ?_
    refine vc_keep [(2, _)] ⟨rfl, trivial⟩ ?_
    refine vc_ret ?_
    refine vq_ret1 st (.inl rfl) Tryd.results120 (.tmp rfl) ?_
    refine ⟨_, rfl, ?_⟩
    refine ⟨?_, rfl⟩
    congr 1
    unfold knownOp
    first | (rw [Bool.eq_iff_iff]; simp; omega) | (symm; simp; omega)
  · intro hg5
    try simp only [dn] at hg5
    refine vc_e (e_skip rfl rfl ?_)
    refine vc_e (e_skip rfl rfl ?_)
    refine vc_y rfl rfl (y_pickf rfl rfl) ?_
    refine vc_y rfl rfl (y_as rfl) ?_
    refine vc_end ?_
    refine vq_then ?_
    refine vc_keep [(2, _)] ⟨rfl, trivial⟩ ?_
    refine vc_ret ?_
    refine vq_ret1 st (.inl rfl) Tryd.results120 (.tmp rfl) ?_
    refine ⟨_, rfl, ?_⟩
    refine ⟨?_, rfl⟩
    congr 1
    unfold knownOp
    first | (rw [Bool.eq_iff_iff]; simp; omega) | (symm; simp; omega)

theorem two_any (k : Int) (w : World) : Ret Tryd.prog 94 [.int .u8 k] w fun v w' => v = .bool (twoOp k) ∧ w' = w := by
  refine ret_of [_] Tryd.func94 rfl Tryd.ntmps94 rfl ?_
  have st := St.init w []
  refine vc_seq ?_
  refine vc_region ?_
  refine vc_y rfl rfl (y_as rfl) ?_
  refine vc_end ?_
  refine vq_then ?_
  refine vc_keep [(0, _)] ⟨rfl, trivial⟩ ?_
  refine vc_seq ?_
  refine vc_region ?_
  refine vc_y rfl rfl (y_mv rfl) ?_
  refine vc_e (e_call [_] rfl rfl Tryd.call120 rfl (known_any _ _) ?_)
  rintro _ _ ⟨rfl, rfl⟩
  refine vc_e (e_mvb rfl rfl rfl ?_ ?_)
  · intro hg5
    try simp only [dn] at hg5
    refine vc_y rfl rfl (y_mv rfl) ?_
    refine vc_y rfl rfl (y_nei rfl rfl) ?_
    refine vc_y rfl rfl (y_pickt rfl rfl) ?_
    refine vc_e (e_mvb rfl rfl rfl ?_ ?_)
    · intro hg9
      try simp only [dn] at hg9
      refine vc_y rfl rfl (y_mv rfl) ?_
      refine vc_y rfl rfl (y_nei rfl rfl) ?_
      refine vc_y rfl rfl (y_pickt rfl rfl) ?_
      refine vc_y rfl rfl (y_as rfl) ?_
      refine vc_end ?_
      refine vq_then ?_
      refine vc_keep [(2, _)] ⟨rfl, trivial⟩ ?_
      refine vc_ret ?_
      refine vq_ret1 st (.inl rfl) Tryd.results94 (.tmp rfl) ?_
      refine ⟨_, rfl, ?_⟩
      refine ⟨?_, rfl⟩
      show Value.bool _ = Value.bool _
      congr 1
      unfold knownOp at *
      unfold twoOp
      simp only [decide_eq_true_eq, decide_eq_false_iff_not, Bool.not_eq_true', Bool.not_eq_false'] at *
      first | (symm; rw [decide_eq_false_iff_not]; omega) | (rw [Bool.eq_iff_iff]; simp only [Bool.not_eq_true', decide_eq_false_iff_not, decide_eq_true_eq]; omega)
    · intro hg9
      try simp only [dn] at hg9
      refine vc_e (e_skip rfl rfl ?_)
      refine vc_e (e_skip rfl rfl ?_)
      refine vc_y rfl rfl (y_pickf rfl rfl) ?_
      refine vc_y rfl rfl (y_as rfl) ?_
      refine vc_end ?_
      refine vq_then ?_
      refine vc_keep [(2, _)] ⟨rfl, trivial⟩ ?_
      refine vc_ret ?_
      refine vq_ret1 st (.inl rfl) Tryd.results94 (.tmp rfl) ?_
      refine ⟨_, rfl, ?_⟩
      refine ⟨?_, rfl⟩
      show Value.bool _ = Value.bool _
      congr 1
      unfold knownOp at *
      unfold twoOp
      simp only [decide_eq_true_eq, decide_eq_false_iff_not, Bool.not_eq_true', Bool.not_eq_false'] at *
      first | (symm; rw [decide_eq_false_iff_not]; omega) | (rw [Bool.eq_iff_iff]; simp only [Bool.not_eq_true', decide_eq_false_iff_not, decide_eq_true_eq]; omega)
  · intro hg5
    try simp only [dn] at hg5
    refine vc_e (e_skip rfl rfl ?_)
    refine vc_e (e_skip rfl rfl ?_)
    refine vc_y rfl rfl (y_pickf rfl rfl) ?_
    refine vc_y rfl rfl (y_mv rfl) ?_
    refine vc_e (e_skip rfl rfl ?_)
    refine vc_e (e_skip rfl rfl ?_)
    refine vc_y rfl rfl (y_pickf rfl rfl) ?_
    refine vc_y rfl rfl (y_as rfl) ?_
    refine vc_end ?_
    refine vq_then ?_
    refine vc_keep [(2, _)] ⟨rfl, trivial⟩ ?_
    refine vc_ret ?_
    refine vq_ret1 st (.inl rfl) Tryd.results94 (.tmp rfl) ?_
    refine ⟨_, rfl, ?_⟩
    refine ⟨?_, rfl⟩
    show Value.bool _ = Value.bool _
    congr 1
    unfold knownOp at *
    unfold twoOp
    simp only [decide_eq_true_eq, decide_eq_false_iff_not, Bool.not_eq_true', Bool.not_eq_false'] at *
    first | (symm; rw [decide_eq_false_iff_not]; omega) | (rw [Bool.eq_iff_iff]; simp only [Bool.not_eq_true', decide_eq_false_iff_not, decide_eq_true_eq]; omega)

theorem show_any (k : Int) (w : World) (hs : Sig w) : Ret Tryd.prog 97 [.int .u8 k] w fun v w' => v = str (if knownOp k = true then sgn k.toNat else []) ∧ w' = w := by
  refine ret_of [_] Tryd.func97 rfl Tryd.ntmps97 rfl ?_
  have st := St.init w []
  refine vc_seq ?_
  refine vc_region ?_
  refine vc_y rfl rfl (y_as rfl) ?_
  refine vc_end ?_
  refine vq_then ?_
  refine vc_keep [(0, _)] ⟨rfl, trivial⟩ ?_
  refine vc_seq ?_
  refine vc_seq ?_
  refine vc_region ?_
  refine vc_y rfl rfl (y_mv rfl) ?_
  refine vc_e (e_call [_] rfl rfl Tryd.call120 rfl (known_any _ _) ?_)
  rintro _ _ ⟨rfl, rfl⟩
  refine vc_y rfl rfl (y_not rfl) ?_
  refine vc_end ?_
  refine vq_then ?_
  refine vc_keep [(0, _), (5, _)] ⟨rfl, rfl, trivial⟩ ?_
  refine vc_ifs rfl ?_ ?_
  · intro hc5
    try simp only [dn] at hc5
    refine vc_seq ?_
    refine vc_region ?_
    refine vc_y rfl rfl (y_as rfl) ?_
    refine vc_end ?_
    refine vq_then ?_
    refine vc_keep [(2, _)] ⟨rfl, trivial⟩ ?_
    refine vc_ret ?_
    refine vq_then_ret ?_
    refine vq_ret1 st (.inl rfl) Tryd.results97 (.tmp rfl) ?_
    refine ⟨_, rfl, ?_⟩
    refine ⟨?_, rfl⟩
    rw [if_neg (by simpa using hc5)]
  · intro hc5
    try simp only [dn] at hc5
    have hk : 0 < k ∧ k < 19 := by simpa [knownOp] using hc5
    obtain ⟨m, rfl⟩ : ∃ m : Nat, k = (m : Int) := ⟨k.toNat, by omega⟩
    refine vc_code_skip ?_
    refine vq_then ?_
    refine vc_keep [(0, _)] ⟨rfl, trivial⟩ ?_
    refine vc_seq ?_
    refine vc_region ?_
    refine vc_y rfl rfl (y_mv rfl) ?_
    refine vc_y rfl rfl (y_iaa (k := m) rfl rfl Tryd.underlying152 Tryd.sizeOf151 rfl (by omega)) ?_
    refine vc_y rfl rfl (y_fa0 rfl Tryd.underlying151 rfl rfl Tryd.sizeOf9 rfl) ?_
    refine vc_y rfl rfl ((by exact y_ldc rfl Tryd.isAgg9 (by have h := (hs m (by omega)).1; rw [Nat.zero_add]; exact h))) ?_
    refine vc_y rfl rfl (y_as rfl) ?_
    refine vc_end ?_
    refine vq_then ?_
    refine vc_keep [(2, _)] ⟨rfl, trivial⟩ ?_
    refine vc_ret ?_
    refine vq_ret1 st (.inl rfl) Tryd.results97 (.tmp rfl) ?_
    refine ⟨_, rfl, ?_⟩
    refine ⟨?_, rfl⟩
    rw [if_pos (by simpa using hc5)]
    rfl

abbrev zs (k : Nat) : List Value := List.replicate k (.int .u8 0)
theorem zs_set (k : Nat) (t : List UInt8) (c : UInt8) (x : Int) (hx : (c.toNat : Int) = x) (hk : 0 < k) : (zs k ++ bytesL t).set (k - 1) (.int .u8 x) = zs (k - 1) ++ bytesL (c :: t) := by
  obtain ⟨m, rfl⟩ : ∃ m, k = m + 1 := ⟨k - 1, by omega⟩
  have e : zs (m + 1) = zs m ++ [.int .u8 0] := by simp [zs, List.replicate_succ']
  rw [e, Nat.add_sub_cancel, List.append_assoc, List.set_append_right _ _ (by simp)]
  subst hx
  simp
theorem zs_len (k : Nat) (t : List UInt8) : (zs k ++ bytesL t).length = k + t.length := by simp
theorem blk_rd {w : World} {b k E : Nat} {t : List UInt8} {c : Nat} (h : w.heap[b]? = some (.cells (zs k ++ bytesL t).toArray E (0, 0))) : RdRowP w (some ⟨b, 0 + k * 1, none⟩) c (bytesL t) :=
  .inr ⟨b, 0 + k * 1, rfl, fun j u hj => cell_blk h (by
    rw [nth_eq, List.getElem?_append_right (by simp)]
    simpa [show 0 + k * 1 + j - k = j by omega] using hj)⟩

set_option maxHeartbeats 1000000 in
theorem wprint_any (x : Int) (w : World) (hx : -9223372036854775808 ≤ x ∧ x ≤ 9223372036854775807) : Ret Tryd.prog 48 [.int .i64 x] w fun v w' => v = str (shw x) ∧ Chg [] w w' := by
  refine ret_of [_] Tryd.func48 rfl Tryd.ntmps48 rfl ?_
  have st := St.init w []
  obtain ⟨w0, rfl⟩ : ∃ w0, w0 = w := ⟨_, rfl⟩
  have hdl := dec_len 18 x.natAbs (by simp only [Nat.reducePow, Nat.reduceAdd]; omega)
  refine vc_seq ?_
  refine vc_region ?_
  refine vc_y rfl rfl (y_as rfl) ?_
  refine vc_end ?_
  refine vq_then ?_
  refine vc_keep [(0, _)] ⟨rfl, trivial⟩ ?_
  refine vc_seq ?_
  refine vc_region ?_
  refine vc_e (e_al (l := [_, _, _, _, _, _, _, _, _, _, _, _, _, _, _, _, _, _, _, _]) st rfl rfl Tryd.zeroValue108 rfl ?_)
  intro b3 w hb3 st
  refine vc_end ?_
  refine vq_then ?_
  refine vc_keep [(0, _), (3, _)] ⟨rfl, rfl, trivial⟩ ?_
  refine vc_seq ?_
  refine vc_region ?_
  refine vc_y rfl rfl (y_as rfl) ?_
  refine vc_end ?_
  refine vq_then ?_
  refine vc_keep [(0, _), (3, _), (4, _)] ⟨rfl, rfl, rfl, trivial⟩ ?_
  refine vc_seq ?_
  refine vc_region ?_
  refine vc_y rfl rfl (y_mv rfl) ?_
  refine vc_y rfl rfl (y_cvi rfl Tryd.underlying109 Tryd.underlying2 (rfl : _ = IntKind.u64.wrap x)) ?_
  refine vc_y rfl rfl (y_as rfl) ?_
  refine vc_end ?_
  refine vq_then ?_
  refine vc_keep [(0, _), (3, _), (4, _), (5, _)] ⟨rfl, rfl, rfl, rfl, trivial⟩ ?_
  refine vc_cut (w0 := w0) (M := []) (fun (_ : Unit) => [(0, .int .i64 x), (3, .pointer (some ⟨b3, 0, none⟩)), (4, .int .i64 20), (5, .int .u64 (x.natAbs : Int))]) (fun _ => [.blk b3 (.cells (zs 20 ++ bytesL []).toArray 108 (0, 0))]) (fun _ _ => True) ?_ ?_
  ·
    refine vc_seq ?_
    refine vc_region ?_
    refine vc_y rfl rfl (y_mv rfl) ?_
    refine vc_y rfl rfl (y_lss rfl rfl) ?_
    refine vc_end ?_
    refine vq_then ?_
    refine vc_keep [(0, _), (3, _), (4, _), (5, _), (9, _)] ⟨rfl, rfl, rfl, rfl, rfl, trivial⟩ ?_
    refine vc_ifs rfl ?_ ?_
    · intro hc9
      try simp only [dn] at hc9
      refine vc_region ?_
      refine vc_y rfl rfl (y_mv rfl) ?_
      refine vc_y rfl rfl (y_neg rfl (by rw [wrap_u64, wrap_u64]; omega : _ = (x.natAbs : Int))) ?_
      refine vc_y rfl rfl (y_as rfl) ?_
      refine vc_end ?_
      exact vq_meet () ⟨rfl, rfl, rfl, rfl, trivial⟩ st trivial
    · intro hc9
      try simp only [dn] at hc9
      refine vc_code_skip ?_
      exact vq_meet () ⟨rfl, rfl, rfl, by simp only [find, Nat.beq]; congr 2; rw [wrap_u64]; omega, trivial⟩ st trivial
  ·
    clear st
    rintro ⟨⟩ w - st
    refine vc_seq ?_
    refine vc_block ?_
    refine vc_loop (w0 := _) (M := _) (fun (y : Nat × Nat × List UInt8) => [(0, .int .i64 x), (3, .pointer (some ⟨b3, 0, none⟩)), (4, .int .i64 (y.1 : Int)), (5, .int .u64 (y.2.1 : Int))]) (fun y => [.blk b3 (.cells (zs y.1 ++ bytesL y.2.2).toArray 108 (0, 0))]) (fun y _ => y.1 + y.2.2.length = 20 ∧ dec y.2.1 ++ y.2.2 = dec x.natAbs ∧ y.2.1 ≤ x.natAbs) (fun y => y.1) (20, x.natAbs, []) ⟨rfl, rfl, rfl, rfl, trivial⟩ st ⟨rfl, by simp, by simp⟩ ?_
    rintro ⟨at_, n, t⟩ w ⟨hat, hdec, hnx⟩ st
    dsimp only at *
    have hdp := dec_pos n
    have hlen := congrArg List.length hdec
    rw [List.length_append] at hlen
    obtain ⟨hdg1, hdg2⟩ := digit_of (Nat.mod_lt n (by omega : 0 < 10))
    refine vc_block ?_
    refine vc_seq ?_
    refine vc_region ?_
    refine vc_y rfl rfl (y_mv rfl) ?_
    refine vc_y rfl rfl (y_sub rfl rfl (by omega : _ = ((at_ - 1 : Nat) : Int)) (by omega) (by omega)) ?_
    refine vc_y rfl rfl (y_as rfl) ?_
    refine vc_end ?_
    refine vq_then ?_
    refine vc_keep [(0, _), (3, _), (4, _), (5, _)] ⟨rfl, rfl, rfl, rfl, trivial⟩ ?_
    refine vc_seq ?_
    refine vc_region ?_
    refine vc_y rfl rfl (y_mv rfl) ?_
    refine vc_y rfl rfl (y_mv rfl) ?_
    refine vc_y rfl rfl (y_remk rfl rfl (by omega) (by omega) (by omega : _ = ((n % 10 : Nat) : Int))) ?_
    refine vc_y rfl rfl (y_addk rfl rfl (by rw [wrap_u64]; omega : _ = ((48 + n % 10 : Nat) : Int))) ?_
    refine vc_y rfl rfl (y_cvi rfl Tryd.underlying5 Tryd.underlying109 (by rw [wrap_u8]; omega : _ = ((48 + n % 10 : Nat) : Int))) ?_
    refine vc_y rfl rfl (y_iaa (k := (at_ - 1)) rfl rfl Tryd.underlying108 Tryd.sizeOf5 rfl (by omega)) ?_
    refine vc_e (e_sta (l' := zs (at_ - 1) ++ bytesL (UInt8.ofNat (48 + n % 10) :: t)) st 0 rfl rfl rfl rfl Tryd.sizeOf5 rfl (by rw [zs_len]; omega) (by rw [show 0 + (at_ - 1) * 1 = at_ - 1 by omega]; exact zs_set at_ t (UInt8.ofNat (48 + n % 10)) _ (by rw [hdg2]) (by omega)) (.inr hb3) ?_)
    intro w st; dsimp only [setNth] at st
    refine vc_end ?_
    refine vq_then ?_
    refine vc_keep [(0, _), (3, _), (4, _), (5, _)] ⟨rfl, rfl, rfl, rfl, trivial⟩ ?_
    refine vc_seq ?_
    refine vc_region ?_
    refine vc_y rfl rfl (y_mv rfl) ?_
    refine vc_y rfl rfl (y_quok rfl rfl (by omega) (by omega) (by rw [wrap_u64]; omega : _ = ((n / 10 : Nat) : Int))) ?_
    refine vc_y rfl rfl (y_as rfl) ?_
    refine vc_end ?_
    refine vq_then ?_
    refine vc_keep [(0, _), (3, _), (4, _), (5, _)] ⟨rfl, rfl, rfl, rfl, trivial⟩ ?_
    refine vc_seq ?_
    refine vc_region ?_
    refine vc_y rfl rfl (y_mv rfl) ?_
    refine vc_y rfl rfl (y_eqi rfl rfl) ?_
    refine vc_end ?_
    refine vq_then ?_
    refine vc_keep [(0, _), (3, _), (4, _), (5, _), (23, _)] ⟨rfl, rfl, rfl, rfl, rfl, trivial⟩ ?_
    refine vc_ifs rfl ?_ ?_
    · intro hc23
      try simp only [dn] at hc23
      have hn : n < 10 := by omega
      have hfin : UInt8.ofNat (48 + n % 10) :: t = dec x.natAbs := by rw [← hdec, dec_small hn, Nat.mod_eq_of_lt hn]; rfl
      rw [hfin] at st
      have hlen2 := congrArg List.length hfin
      simp only [List.length_cons] at hlen2
      refine vc_exit ?_
      refine vq_block_other rfl ?_
      refine vq_then_exit ?_
      refine vq_block_exit ?_
      refine vq_then ?_
      refine vc_keep [(0, _), (3, _), (4, _)] ⟨rfl, rfl, rfl, trivial⟩ ?_
      refine vc_seq ?_
      refine vc_seq ?_
      refine vc_region ?_
      refine vc_y rfl rfl (y_mv rfl) ?_
      refine vc_y rfl rfl (y_lss rfl rfl) ?_
      refine vc_end ?_
      refine vq_then ?_
      refine vc_keep [(3, _), (4, _), (25, _)] ⟨rfl, rfl, rfl, trivial⟩ ?_
      refine vc_ifs rfl ?_ ?_
      · intro hc25
        try simp only [dn] at hc25
        refine vc_seq ?_
        refine vc_region ?_
        refine vc_y rfl rfl (y_mv rfl) ?_
        refine vc_y rfl rfl (y_sub rfl rfl (by omega : _ = ((at_ - 2 : Nat) : Int)) (by omega) (by omega)) ?_
        refine vc_y rfl rfl (y_as rfl) ?_
        refine vc_end ?_
        refine vq_then ?_
        refine vc_keep [(3, _), (4, _)] ⟨rfl, rfl, trivial⟩ ?_
        refine vc_region ?_
        refine vc_y rfl rfl (y_mv rfl) ?_
        refine vc_y rfl rfl (y_iaa (k := (at_ - 2)) rfl rfl Tryd.underlying108 Tryd.sizeOf5 rfl (by omega)) ?_
        refine vc_e (e_sta (l' := zs (at_ - 2) ++ bytesL (45 :: dec x.natAbs)) st 0 rfl rfl rfl rfl Tryd.sizeOf5 rfl (by rw [zs_len]; omega) (by rw [show 0 + (at_ - 2) * 1 = (at_ - 1) - 1 by omega]; have := zs_set (at_ - 1) (dec x.natAbs) 45 45 (by rfl) (by omega); rw [show at_ - 1 - 1 = at_ - 2 by omega] at this ⊢; exact this) (.inr hb3) ?_)
        intro w st; dsimp only [setNth] at st
        refine vc_end ?_
        refine vq_then ?_
        refine vc_keep [(3, _), (4, _)] ⟨rfl, rfl, trivial⟩ ?_
        refine vc_seq ?_
        refine vc_region ?_
        refine vc_y rfl rfl (y_mv rfl) ?_
        refine vc_y rfl rfl (y_sla (i := _) rfl rfl Tryd.underlying108 Tryd.sizeOf5 rfl (by omega)) ?_
        refine vc_y rfl rfl (y_b2s rfl (blk_rd (st.res (i := 0) rfl)) (by first | (simp only [List.length_cons]; omega) | omega) Tryd.underlying45 Tryd.underlying5 Tryd.underlying9) ?_
        refine vc_y rfl rfl (y_as rfl) ?_
        refine vc_end ?_
        refine vq_then ?_
        refine vc_keep [(2, _)] ⟨rfl, trivial⟩ ?_
        refine vc_ret ?_
        refine vq_ret1 st (.inl rfl) Tryd.results48 (.tmp rfl) ?_
        refine ⟨_, rfl, ?_⟩
        refine ⟨?_, st.chg⟩
        unfold shw
        rw [if_pos (by omega)]
      · intro hc25
        try simp only [dn] at hc25
        refine vc_code_skip ?_
        refine vq_then ?_
        refine vc_keep [(3, _), (4, _)] ⟨rfl, rfl, trivial⟩ ?_
        refine vc_seq ?_
        refine vc_region ?_
        refine vc_y rfl rfl (y_mv rfl) ?_
        refine vc_y rfl rfl (y_sla (i := _) rfl rfl Tryd.underlying108 Tryd.sizeOf5 rfl (by omega)) ?_
        refine vc_y rfl rfl (y_b2s rfl (blk_rd (st.res (i := 0) rfl)) (by first | (simp only [List.length_cons]; omega) | omega) Tryd.underlying45 Tryd.underlying5 Tryd.underlying9) ?_
        refine vc_y rfl rfl (y_as rfl) ?_
        refine vc_end ?_
        refine vq_then ?_
        refine vc_keep [(2, _)] ⟨rfl, trivial⟩ ?_
        refine vc_ret ?_
        refine vq_ret1 st (.inl rfl) Tryd.results48 (.tmp rfl) ?_
        refine ⟨_, rfl, ?_⟩
        refine ⟨?_, st.chg⟩
        unfold shw
        rw [if_neg (by omega)]
    · intro hc23
      try simp only [dn] at hc23
      refine vc_code_skip ?_
      refine vq_block ?_
      refine vq_again (at_ - 1, n / 10, UInt8.ofNat (48 + n % 10) :: t)  ⟨rfl, rfl, rfl, rfl, trivial⟩ st ?_ ?_
      · refine ⟨by simp; omega, ?_, by dsimp only; omega⟩
        dsimp only
        rw [← hdec, dec_big (n := n) (by omega)]; simp
      · dsimp only; omega

end Go.Proofs.YtnmhlpnapgojjaaDoor


/- The engine, eighth part: a statement whose order is drawn, two operations at a time. -/
namespace Sx
open Go Go.RowKit
set_option linter.unusedVariables false
set_option linter.unusedSimpArgs false

inductive Pl where
  | done
  | take (i : Nat) (r : Pl)
  | one (i : Nat) (r : Pl)
  | two (i j : Nat) (r s : Pl)

def Pl.len : Pl → Nat
  | .done => 0
  | .take _ r => r.len + 1
  | .one _ r => r.len + 1
  | .two _ _ r _ => r.len + 1

def plOK (L : Array Oper) : Pl → Array Bool → Bool
  | .done, listed => (Region.ready .any L listed).isEmpty
  | .take i r, listed => (Region.ready .any L listed).contains i && Region.free .any L listed i && plOK L r (listed.setIfInBounds i true)
  | .one i r, listed => (Region.ready .any L listed == [i]) && plOK L r (listed.setIfInBounds i true)
  | .two i j r s, listed => (Region.ready .any L listed == [i, j]) && (r.len == s.len) && plOK L r (listed.setIfInBounds i true) && plOK L s (listed.setIfInBounds j true)

section
variable {P : Program} {n : Fr} {L : List Oper} {Q : Exit → Act → World → Prop} {kn : Kn} {w : World} {S : World → Prop}

def vD (P : Program) (n : Fr) (L : List Oper) (Q : Exit → Act → World → Prop) (S : World → Prop) (plan : Pl) (kn : Kn) (w : World) : Prop :=
  ∀ a listed, okQ Q → Region.noSelect L.toArray = true → K n kn a → plOK L.toArray plan listed = true → wpAnyH P .any L.toArray Q S plan.len listed a w

def ND (P : Program) (L : List Oper) (Q : Exit → Act → World → Prop) (S : World → Prop) (plan : Pl) (a : Act) (w : World) : Prop :=
  S w ∧ (okQ Q → Region.noSelect L.toArray = true → ∀ listed, plOK L.toArray plan listed = true → wpAnyH P .any L.toArray Q S plan.len listed a w)

theorem vd_next {plan : Pl} (hS : S w) (h : S w → vD P n L Q S plan kn w) : vN n (ND P L Q S plan) kn w := fun a ha => ⟨hS, fun hQ hsel listed hl => h hS a listed hQ hsel ha hl⟩

theorem vd_end (h : vcQ n Q .normal kn w) : vD P n L Q S .done kn w := fun a listed hQ hsel ha hl => by
  simp only [plOK, List.isEmpty_iff] at hl
  exact ⟨hl, h a ha⟩

theorem vd_take {i : Nat} {o : Oper} {v : Value} {r : Pl} (hi : nth L i = some o) (hw : gd L kn o.guard = some true) (hd : okDst n o.dst = true)
    (hS : S w) (y : ∀ w', S w' → Y P n kn w' o v) (next : vD P n L Q S r (put o.dst v kn) w) : vD P n L Q S (.take i r) kn w := by
  intro a listed hQ hsel ha hl
  simp only [plOK, Bool.and_eq_true] at hl
  rw [nth_eq] at hi
  exact wpAnyH_take (oi := o) (v := v) (by simpa using hi) hsel hl.1.2 hl.1.1 (fun c a w h => hQ c _ _ w (put_defers _ _ _) h)
    (.inl ⟨ha.gd hw, fun w' hS' => y w' hS' a ha⟩) hS (next _ _ hQ hsel (ha.put hd v) hl.2)

theorem nd_op {i : Nat} {o : Oper} {r : Pl} {a : Act} {listed : Array Bool} (hi : nth L i = some o) (e : vS P n L Q o (ND P L Q S r) kn w) (ha : K n kn a) (hQ : okQ Q) (hsel : Region.noSelect L.toArray = true)
    (hl : plOK L.toArray r (listed.setIfInBounds i true) = true) : wpOp P L.toArray Q i (fun a' w' => S w' ∧ wpAnyH P .any L.toArray Q S r.len (listed.setIfInBounds i true) a' w') a w := by
  rw [nth_eq] at hi
  have he := e a ha
  unfold wpOp
  simp only [List.getElem?_toArray, hi]
  split
  · rename_i hw
    rw [if_pos hw] at he
    exact he.imp (Oper.wp_mono (fun a' w' h => ⟨h.1, h.2 hQ hsel _ hl⟩)) id
  · rename_i hw
    rw [if_neg hw] at he
    exact ⟨he.1, he.2 hQ hsel _ hl⟩

theorem vd_do {i : Nat} {o : Oper} {r : Pl} (hi : nth L i = some o) (e : vS P n L Q o (ND P L Q S r) kn w) : vD P n L Q S (.one i r) kn w := by
  intro a listed hQ hsel ha hl
  simp only [plOK, Bool.and_eq_true, beq_iff_eq] at hl
  refine wpAnyH_all hl.1 (by simp) (fun j hj => ?_)
  obtain rfl : j = i := by simpa using hj
  exact nd_op hi e ha hQ hsel hl.2

theorem vd_two {i j : Nat} {o p : Oper} {r s : Pl} (hi : nth L i = some o) (hj : nth L j = some p) (e : vS P n L Q o (ND P L Q S r) kn w) (f : vS P n L Q p (ND P L Q S s) kn w) : vD P n L Q S (.two i j r s) kn w := by
  intro a listed hQ hsel ha hl
  simp only [plOK, Bool.and_eq_true, beq_iff_eq] at hl
  obtain ⟨⟨⟨h1, h2⟩, h3⟩, h4⟩ := hl
  refine wpAnyH_all h1 (by simp) (fun k hk => ?_)
  have hk' : k = i ∨ k = j := by simpa using hk
  rcases hk' with rfl | rfl
  · exact nd_op hi e ha hQ hsel h3
  · rw [h2]; exact nd_op hj f ha hQ hsel h4

theorem vd_draw {id : Nat} (hm : P.follows .mixedOrders = true) (plan : Pl) (S : World → Prop) (hS0 : S w) (hsel : Region.noSelect L.toArray = true) (hQ : okQ Q) (hlen : plan.len = L.length) (hplan : plOK L.toArray plan (Array.replicate L.length false) = true)
    (h : ∀ w', Chg [] w w' → vD P n L Q S plan kn w') : vcC P n (.region id L.toArray true) Q kn w := by
  intro a ha
  refine wp_region_held (S := S) hm ?_
  have := h w.drew (Chg.drew w) a (Array.replicate L.length false) hQ hsel ha hplan
  rw [hlen] at this
  rw [List.size_toArray]
  exact this
end
end Sx


namespace Go.Proofs.YtnmhlpnapgojjaaDoor
open Go.RowKit Sx LexS
set_option linter.unusedVariables false
set_option linter.unusedSimpArgs false
theorem cell_nth {w : World} {b off E : Nat} {l : List Value} {v : Value} (h : w.heap[b]? = some (.cells l.toArray E (0, 0))) (hv : nth l off = some v) : w.cell? ⟨b, off, none⟩ = some v := cell_blk h hv

theorem level_any (k : Int) (w : World) (hs : Sig w) : Ret Tryd.prog 95 [.int .u8 k] w fun v w' => v = .int .i64 (lvlO k) ∧ w' = w := by
  refine ret_of [_] Tryd.func95 rfl Tryd.ntmps95 rfl ?_
  have st := St.init w []
  refine vc_seq ?_
  refine vc_region ?_
  refine vc_y rfl rfl (y_as rfl) ?_
  refine vc_end ?_
  refine vq_then ?_
  refine vc_keep [(0, _)] ⟨rfl, trivial⟩ ?_
  refine vc_seq ?_
  refine vc_seq ?_
  refine vc_region ?_
  refine vc_y rfl rfl (y_mv rfl) ?_
  refine vc_e (e_call [_] rfl rfl Tryd.call120 rfl (known_any _ _) ?_)
  rintro _ _ ⟨rfl, rfl⟩
  refine vc_y rfl rfl (y_not rfl) ?_
  refine vc_end ?_
  refine vq_then ?_
  refine vc_keep [(0, _), (5, _)] ⟨rfl, rfl, trivial⟩ ?_
  refine vc_ifs rfl ?_ ?_
  · intro hc5
    try simp only [dn] at hc5
    refine vc_seq ?_
    refine vc_region ?_
    refine vc_y rfl rfl (y_as rfl) ?_
    refine vc_end ?_
    refine vq_then ?_
    refine vc_keep [(2, _)] ⟨rfl, trivial⟩ ?_
    refine vc_ret ?_
    refine vq_then_ret ?_
    refine vq_ret1 st (.inl rfl) Tryd.results95 (.tmp rfl) ?_
    refine ⟨_, rfl, ?_⟩
    refine ⟨?_, rfl⟩
    unfold lvlO
    rw [if_neg (by simpa using hc5)]
  · intro hc5
    try simp only [dn] at hc5
    have hk : 0 < k ∧ k < 19 := by simpa [knownOp] using hc5
    obtain ⟨m, rfl⟩ : ∃ m : Nat, k = (m : Int) := ⟨k.toNat, by omega⟩
    refine vc_code_skip ?_
    refine vq_then ?_
    refine vc_keep [(0, _)] ⟨rfl, trivial⟩ ?_
    refine vc_seq ?_
    refine vc_region ?_
    refine vc_y rfl rfl (y_mv rfl) ?_
    refine vc_y rfl rfl (y_iaa (k := m) rfl rfl Tryd.underlying152 Tryd.sizeOf151 rfl (by omega)) ?_
    refine vc_y rfl rfl ((by exact y_fa (k := 1) rfl Tryd.underlying151 rfl rfl Tryd.sizeOf3 rfl)) ?_
    refine vc_y rfl rfl ((by exact y_ldc rfl Tryd.isAgg3 (by have h := (hs m (by omega)).2; rw [Nat.zero_add]; exact h))) ?_
    refine vc_y rfl rfl (y_as rfl) ?_
    refine vc_end ?_
    refine vq_then ?_
    refine vc_keep [(2, _)] ⟨rfl, trivial⟩ ?_
    refine vc_ret ?_
    refine vq_ret1 st (.inl rfl) Tryd.results95 (.tmp rfl) ?_
    refine ⟨_, rfl, ?_⟩
    refine ⟨?_, rfl⟩
    unfold lvlO
    rw [if_pos (by simpa using hc5)]
    rfl

theorem named_any (l : List UInt8) (b : Bool) (w : World) : Ret Tryd.prog 78 [str l, .bool b] w fun v w' => v = .bool (if b = true then isName l else decide (l = [])) ∧ w' = w := by
  refine ret_of [_, _] Tryd.func78 rfl Tryd.ntmps78 rfl ?_
  have st := St.init w []
  refine vc_seq ?_
  refine vc_region ?_
  refine vc_y rfl rfl (y_as rfl) ?_
  refine vc_end ?_
  refine vq_then ?_
  refine vc_keep [(0, _), (1, _)] ⟨rfl, rfl, trivial⟩ ?_
  refine vc_seq ?_
  refine vc_region ?_
  refine vc_y rfl rfl (y_mv rfl) ?_
  refine vc_e (e_mvb rfl rfl rfl ?_ ?_)
  · intro hg6
    try simp only [dn] at hg6
    refine vc_y rfl rfl (y_mv rfl) ?_
    refine vc_e (e_call [_] rfl rfl Tryd.call36 rfl (name_any _ _) ?_)
    rintro _ _ ⟨rfl, rfl⟩
    refine vc_y rfl rfl (y_pickt rfl rfl) ?_
    refine vc_e (e_mvb rfl rfl rfl ?_ ?_)
    · intro hg10
      try simp only [dn] at hg10
      refine vc_e (e_skip rfl rfl ?_)
      refine vc_e (e_skip rfl rfl ?_)
      refine vc_e (e_skip rfl rfl ?_)
      refine vc_e (e_skip rfl rfl ?_)
      refine vc_e (e_skip rfl rfl ?_)
      refine vc_e (e_skip rfl rfl ?_)
      refine vc_y rfl rfl (y_pickt rfl rfl) ?_
      refine vc_y rfl rfl (y_as rfl) ?_
      refine vc_end ?_
      refine vq_then ?_
      refine vc_keep [(4, _)] ⟨rfl, trivial⟩ ?_
      refine vc_ret ?_
      refine vq_ret1 st (.inl rfl) Tryd.results78 (.tmp rfl) ?_
      refine ⟨_, rfl, ?_⟩
      refine ⟨?_, rfl⟩
      show Value.bool _ = Value.bool _
      congr 1
      cases b <;> simp_all
    · intro hg10
      try simp only [dn] at hg10
      refine vc_y rfl rfl (y_mv rfl) ?_
      refine vc_y rfl rfl (y_not rfl) ?_
      refine vc_e (e_mvb rfl rfl rfl ?_ ?_)
      · intro hg13
        try simp only [dn] at hg13
        refine vc_y rfl rfl (y_mv rfl) ?_
        refine vc_y rfl rfl (y_eqs rfl rfl) ?_
        refine vc_y rfl rfl (y_pickt rfl rfl) ?_
        refine vc_y rfl rfl (y_pickf rfl rfl) ?_
        refine vc_y rfl rfl (y_as rfl) ?_
        refine vc_end ?_
        refine vq_then ?_
        refine vc_keep [(4, _)] ⟨rfl, trivial⟩ ?_
        refine vc_ret ?_
        refine vq_ret1 st (.inl rfl) Tryd.results78 (.tmp rfl) ?_
        refine ⟨_, rfl, ?_⟩
        refine ⟨?_, rfl⟩
        show Value.bool _ = Value.bool _
        congr 1
        cases b <;> simp_all
      · intro hg13
        try simp only [dn] at hg13
        refine vc_e (e_skip rfl rfl ?_)
        refine vc_e (e_skip rfl rfl ?_)
        refine vc_y rfl rfl (y_pickf rfl rfl) ?_
        refine vc_y rfl rfl (y_pickf rfl rfl) ?_
        refine vc_y rfl rfl (y_as rfl) ?_
        refine vc_end ?_
        refine vq_then ?_
        refine vc_keep [(4, _)] ⟨rfl, trivial⟩ ?_
        refine vc_ret ?_
        refine vq_ret1 st (.inl rfl) Tryd.results78 (.tmp rfl) ?_
        refine ⟨_, rfl, ?_⟩
        refine ⟨?_, rfl⟩
        show Value.bool _ = Value.bool _
        congr 1
        cases b <;> simp_all
  · intro hg6
    try simp only [dn] at hg6
    refine vc_e (e_skip rfl rfl ?_)
    refine vc_e (e_skip rfl rfl ?_)
    refine vc_y rfl rfl (y_pickf rfl rfl) ?_
    refine vc_y rfl rfl (y_mv rfl) ?_
    refine vc_y rfl rfl (y_mv rfl) ?_
    refine vc_y rfl rfl (y_not rfl) ?_
    refine vc_e (e_mvb rfl rfl rfl ?_ ?_)
    · intro hg13
      try simp only [dn] at hg13
      refine vc_y rfl rfl (y_mv rfl) ?_
      refine vc_y rfl rfl (y_eqs rfl rfl) ?_
      refine vc_y rfl rfl (y_pickt rfl rfl) ?_
      refine vc_y rfl rfl (y_pickf rfl rfl) ?_
      refine vc_y rfl rfl (y_as rfl) ?_
      refine vc_end ?_
      refine vq_then ?_
      refine vc_keep [(4, _)] ⟨rfl, trivial⟩ ?_
      refine vc_ret ?_
      refine vq_ret1 st (.inl rfl) Tryd.results78 (.tmp rfl) ?_
      refine ⟨_, rfl, ?_⟩
      refine ⟨?_, rfl⟩
      show Value.bool _ = Value.bool _
      congr 1
      cases b <;> simp_all
    · intro hg13
      try simp only [dn] at hg13
      refine vc_e (e_skip rfl rfl ?_)
      refine vc_e (e_skip rfl rfl ?_)
      refine vc_y rfl rfl (y_pickf rfl rfl) ?_
      refine vc_y rfl rfl (y_pickf rfl rfl) ?_
      refine vc_y rfl rfl (y_as rfl) ?_
      refine vc_end ?_
      refine vq_then ?_
      refine vc_keep [(4, _)] ⟨rfl, trivial⟩ ?_
      refine vc_ret ?_
      refine vq_ret1 st (.inl rfl) Tryd.results78 (.tmp rfl) ?_
      refine ⟨_, rfl, ?_⟩
      refine ⟨?_, rfl⟩
      show Value.bool _ = Value.bool _
      congr 1
      cases b <;> simp_all

end Go.Proofs.YtnmhlpnapgojjaaDoor

