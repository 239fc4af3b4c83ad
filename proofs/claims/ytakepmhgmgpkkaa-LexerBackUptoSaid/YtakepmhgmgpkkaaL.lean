/- A part of the proof: contracts of functions and plain laws; each theorem says its own conditions. -/
import Derived.Test.YtakepmhgmgpkkaaK
namespace Go.Proofs.Ytakepmhgmgpkkaa
open Go.RowKit Sx LexS
set_option linter.unusedVariables false
set_option linter.unusedSimpArgs false
/-- what 'one' hands back -/
def OnePost (res : TokR) (v : Value) : Prop := match res with
  | .tok t => v = .tuple [.agg (tokL t).toArray, .int .i64 0, .int .i64 0].toArray
  | .bad rule p => ∃ k t wd a, v = .tuple [.agg (tok4 k t wd a).toArray, .int .i64 (rule : Int), .int .i64 (p : Int)].toArray
theorem isWord_len {l : List UInt8} (h : isWord l = true) : l.length ≤ 32 := by
  simp only [isWord, decide_eq_true_eq] at h
  rcases h with h | h | h | h | h | h | h | h | h | h <;> rw [h] <;> decide
theorem numR_digits {T : List UInt8} (hne : T ≠ []) (hall : T.all isDigit = true) : numR T = if (1 < T.length ∧ T.getD 0 0 = 48) ∨ 9223372036854775807 < numVal T then (0, false) else (numVal T, true) := by
  unfold numR
  simp only [hne, hall, Bool.true_eq_false, false_or]
theorem all_takeWhile {p : UInt8 → Bool} (l : List UInt8) : (l.takeWhile p).all p = true := by
  induction l with
  | nil => rfl
  | cons c r ih => rw [List.takeWhile_cons]; split
                   · rename_i h; simp only [List.all_cons, h, ih, Bool.and_self]
                   · rfl
theorem numR_tok {s : List UInt8} {i : Nat} (h : i < s.length) (hc : isLetter (s.getD i 0) = false) (hd : isDigit (s.getD i 0) = true) :
    tokAt (s.drop i) i = if (numR ((s.drop i).takeWhile isDigit)).2 = false then .bad 3 i
      else if i + ((s.drop i).takeWhile isDigit).length < s.length ∧ isLetter (s.getD (i + ((s.drop i).takeWhile isDigit).length) 0) = true then .bad 4 (i + ((s.drop i).takeWhile isDigit).length)
      else .tok ⟨3, (s.drop i).takeWhile isDigit, (numR ((s.drop i).takeWhile isDigit)).1, i⟩ := by
  rw [tokAt_num h hc hd]
  have hT : (s.drop i).takeWhile isDigit = s.getD i 0 :: (s.drop (i + 1)).takeWhile isDigit := by rw [drop_cons h, List.takeWhile_cons, if_pos hd]
  have hall := all_takeWhile (p := isDigit) (s.drop i)
  rw [hT] at hall ⊢
  generalize (s.drop (i + 1)).takeWhile isDigit = U at *
  have h0 : (s.getD i 0 :: U).getD 0 0 = s.getD i 0 := rfl
  rw [numR_digits (by simp) hall, h0]
  by_cases hcond : (1 < (s.getD i 0 :: U).length ∧ s.getD i 0 = 48) ∨ 9223372036854775807 < numVal (s.getD i 0 :: U)
  · rw [if_pos hcond, if_pos hcond, if_pos rfl]
  · rw [if_neg hcond, if_neg hcond]; simp only [Bool.true_eq_false, if_false]

set_option maxHeartbeats 2000000 in
theorem rone_any (s : List UInt8) (i : Nat) (w : World) (hi : i < s.length) (hs : s.length ≤ 9000000000000000000) :
    Ret Try.prog 37 [str s, .int .i64 (i : Int)] w fun v w' => OnePost (tokAt (s.drop i) i) v ∧ Chg [] w w' := by
  refine ret_of [_, _] Try.func37 rfl Try.ntmps37 rfl ?_
  have st := St.init w []
  refine vc_seq ?_
  refine vc_region ?_
  refine vc_e (e_al (l := [_, _, _, _]) st rfl rfl Try.zeroValue33 rfl ?_)
  intro b4 w hb4 st
  refine vc_y rfl rfl (y_as rfl) ?_
  refine vc_y rfl rfl (y_as rfl) ?_
  refine vc_end ?_
  refine vq_then ?_
  refine vc_keep [(0, _), (1, _), (4, _)] ⟨rfl, rfl, rfl, trivial⟩ ?_
  refine vc_seq ?_
  refine vc_region ?_
  refine vc_y rfl rfl (y_mv rfl) ?_
  refine vc_y rfl rfl (y_as rfl) ?_
  refine vc_end ?_
  refine vq_then ?_
  refine vc_keep [(0, _), (1, _), (4, _), (7, _)] ⟨rfl, rfl, rfl, rfl, trivial⟩ ?_
  refine vc_seq ?_
  refine vc_block ?_
  refine vc_seq ?_
  refine vc_region ?_
  refine vc_y rfl rfl (y_mv rfl) ?_
  refine vc_y rfl rfl (y_mv rfl) ?_
  refine vc_y rfl rfl (y_ixs (k := i) rfl rfl Try.underlying9 rfl (by omega)) ?_
  refine vc_e (e_call [_] rfl rfl Try.call33 rfl (rletter_any _ _) ?_)
  rintro _ w ⟨rfl, rfl⟩
  refine vc_y rfl rfl (y_as rfl) ?_
  refine vc_end ?_
  refine vq_then ?_
  refine vc_keep [(0, _), (1, _), (4, _), (7, _), (12, _)] ⟨rfl, rfl, rfl, rfl, rfl, trivial⟩ ?_
  refine vc_ifs rfl ?_ ?_
  · intro hc12
    try simp only [decide_eq_true_eq, decide_eq_false_iff_not, Bool.not_eq_true', Bool.not_eq_false', Bool.not_eq_true, Bool.not_eq_false, Int.not_lt, Int.not_le, Nat.not_lt, Nat.not_le, Bool.not_true, Bool.not_false, Bool.true_eq_false, Bool.false_eq_true] at hc12
    refine vc_seq ?_
    refine vc_block ?_
    refine vc_loop (w0 := _) (M := _) (fun (j : Nat) => [(0, str s), (1, .int .i64 (i : Int)), (4, .pointer (some ⟨b4, 0, none⟩)), (7, .int .i64 (j : Int))]) (fun _ => [.blk b4 (.cells zeroL.toArray 33 (0, 0))]) (fun j _ => i ≤ j ∧ j ≤ s.length ∧ (s.drop i).takeWhile isIdent = (s.drop i).take (j - i) ++ (s.drop j).takeWhile isIdent) (fun j => s.length - j) i ⟨rfl, rfl, rfl, rfl, trivial⟩ st ⟨by omega, by omega, by simp⟩ ?_
    rintro j w ⟨hij, hj, he⟩ st
    refine vc_seq ?_
    refine vc_seq ?_
    refine vc_region ?_
    refine vc_y rfl rfl (y_mv rfl) ?_
    refine vc_y rfl rfl (y_mv rfl) ?_
    refine vc_y rfl rfl (y_lens rfl Try.underlying9) ?_
    refine vc_y rfl rfl (y_lss rfl rfl) ?_
    refine vc_e (e_mvb rfl rfl rfl ?_ ?_)
    · intro hg21
      try simp only [decide_eq_true_eq, decide_eq_false_iff_not, Bool.not_eq_true', Bool.not_eq_false', Bool.not_eq_true, Bool.not_eq_false, Int.not_lt, Int.not_le, Nat.not_lt, Nat.not_le, Bool.not_true, Bool.not_false, Bool.true_eq_false, Bool.false_eq_true] at hg21
      refine vc_y rfl rfl (y_mv rfl) ?_
      refine vc_y rfl rfl (y_mv rfl) ?_
      refine vc_y rfl rfl (y_ixs (k := j) rfl rfl Try.underlying9 rfl (by omega)) ?_
      refine vc_e (e_call [_] rfl rfl Try.call33 rfl (rletter_any _ _) ?_)
      rintro _ w ⟨rfl, rfl⟩
      refine vc_e (e_mvb rfl rfl rfl ?_ ?_)
      · intro hg26
        try simp only [decide_eq_true_eq, decide_eq_false_iff_not, Bool.not_eq_true', Bool.not_eq_false', Bool.not_eq_true, Bool.not_eq_false, Int.not_lt, Int.not_le, Nat.not_lt, Nat.not_le, Bool.not_true, Bool.not_false, Bool.true_eq_false, Bool.false_eq_true] at hg26
        refine vc_e (e_skip rfl rfl ?_)
        refine vc_e (e_skip rfl rfl ?_)
        refine vc_e (e_skip rfl rfl ?_)
        refine vc_e (e_skip rfl rfl ?_)
        refine vc_y rfl rfl (y_pickt rfl rfl) ?_
        refine vc_y rfl rfl (y_pickt rfl rfl) ?_
        refine vc_end ?_
        refine vq_then ?_
        refine vc_keep [(0, _), (1, _), (4, _), (7, _), (32, _)] ⟨rfl, rfl, rfl, rfl, rfl, trivial⟩ ?_
        refine vc_ift rfl ?_
        refine vc_code_skip ?_
        refine vq_then ?_
        refine vc_keep [(0, _), (1, _), (4, _), (7, _)] ⟨rfl, rfl, rfl, rfl, trivial⟩ ?_
        refine vc_block ?_
        refine vc_region ?_
        refine vc_y rfl rfl (y_mv rfl) ?_
        refine vc_y rfl rfl (y_add rfl rfl rfl (by omega) (by omega)) ?_
        refine vc_y rfl rfl (y_as rfl) ?_
        refine vc_end ?_
        refine vq_block ?_
        refine vq_again (j + 1) ⟨rfl, rfl, rfl, rfl, trivial⟩ st ?_ ?_
        · exact ⟨by omega, by omega, tw_step hij (by omega) (isIdent_of _ (by first | (left; assumption) | (right; assumption))) he⟩
        · omega
      · intro hg26
        try simp only [decide_eq_true_eq, decide_eq_false_iff_not, Bool.not_eq_true', Bool.not_eq_false', Bool.not_eq_true, Bool.not_eq_false, Int.not_lt, Int.not_le, Nat.not_lt, Nat.not_le, Bool.not_true, Bool.not_false, Bool.true_eq_false, Bool.false_eq_true] at hg26
        refine vc_y rfl rfl (y_mv rfl) ?_
        refine vc_y rfl rfl (y_mv rfl) ?_
        refine vc_y rfl rfl (y_ixs (k := j) rfl rfl Try.underlying9 rfl (by omega)) ?_
        refine vc_e (e_call [_] rfl rfl Try.call32 rfl (rdigit_any _ _) ?_)
        rintro _ w ⟨rfl, rfl⟩
        refine vc_y rfl rfl (y_pickf rfl rfl) ?_
        refine vc_y rfl rfl (y_pickt rfl rfl) ?_
        refine vc_end ?_
        refine vq_then ?_
        refine vc_keep [(0, _), (1, _), (4, _), (7, _), (32, _)] ⟨rfl, rfl, rfl, rfl, rfl, trivial⟩ ?_
        refine vc_ifs rfl ?_ ?_
        · intro hc32
          try simp only [decide_eq_true_eq, decide_eq_false_iff_not, Bool.not_eq_true', Bool.not_eq_false', Bool.not_eq_true, Bool.not_eq_false, Int.not_lt, Int.not_le, Nat.not_lt, Nat.not_le, Bool.not_true, Bool.not_false, Bool.true_eq_false, Bool.false_eq_true] at hc32
          refine vc_code_skip ?_
          refine vq_then ?_
          refine vc_keep [(0, _), (1, _), (4, _), (7, _)] ⟨rfl, rfl, rfl, rfl, trivial⟩ ?_
          refine vc_block ?_
          refine vc_region ?_
          refine vc_y rfl rfl (y_mv rfl) ?_
          refine vc_y rfl rfl (y_add rfl rfl rfl (by omega) (by omega)) ?_
          refine vc_y rfl rfl (y_as rfl) ?_
          refine vc_end ?_
          refine vq_block ?_
          refine vq_again (j + 1) ⟨rfl, rfl, rfl, rfl, trivial⟩ st ?_ ?_
          · exact ⟨by omega, by omega, tw_step hij (by omega) (isIdent_of _ (by first | (left; assumption) | (right; assumption))) he⟩
          · omega
        · intro hc32
          try simp only [decide_eq_true_eq, decide_eq_false_iff_not, Bool.not_eq_true', Bool.not_eq_false', Bool.not_eq_true, Bool.not_eq_false, Int.not_lt, Int.not_le, Nat.not_lt, Nat.not_le, Bool.not_true, Bool.not_false, Bool.true_eq_false, Bool.false_eq_true] at hc32
          have hT := tw_end (fun _ => isIdent_no _ (by assumption) (by assumption)) he
          refine vc_exit ?_
          refine vq_then_exit ?_
          refine vq_then_exit ?_
          refine vq_block_exit ?_
          refine vq_then ?_
          refine vc_keep [(0, _), (1, _), (4, _), (7, _)] ⟨rfl, rfl, rfl, rfl, trivial⟩ ?_
          refine vc_seq ?_
          refine vc_region ?_
          refine vc_y rfl rfl (y_mv rfl) ?_
          refine vc_y rfl rfl (y_mv rfl) ?_
          refine vc_y rfl rfl (y_mv rfl) ?_
          refine vc_y rfl rfl (y_sls (i := i) (j := j) rfl rfl rfl Try.underlying9 rfl rfl (by omega) (by omega)) ?_
          refine vc_y rfl rfl (y_mv rfl) ?_
          refine vc_y rfl rfl (y_bld (.agg #[_, _, _, _]) [(0, _), (1, _), (3, _)] rfl (fun w => by simp [Instr.build, go_sem] <;> repeat' constructor)) ?_
          refine vc_e (e_al (l := [_, _, _, _]) st rfl rfl Try.zeroValue33 rfl ?_)
          intro b8 w hb8 st
          first
          | refine vc_e (e_sts (vs := [_, _, _, _]) st 0 rfl rfl rfl rfl rfl Try.sizeOf33 rfl rfl (by first | (right; assumption) | (left; simp)) ?_)
          | refine vc_e (e_sts (vs := [_, _, _, _]) st 1 rfl rfl rfl rfl rfl Try.sizeOf33 rfl rfl (by first | (right; assumption) | (left; simp)) ?_)
          | refine vc_e (e_sts (vs := [_, _, _, _]) st 2 rfl rfl rfl rfl rfl Try.sizeOf33 rfl rfl (by first | (right; assumption) | (left; simp)) ?_)
          intro w st; dsimp only [setNth, wr] at st
          refine vc_end ?_
          refine vq_then ?_
          refine vc_keep [(1, _), (4, _), (7, _), (8, _)] ⟨rfl, rfl, rfl, rfl, trivial⟩ ?_
          refine vc_seq ?_
          refine vc_seq ?_
          refine vc_region ?_
          refine vc_y rfl rfl ((by first | exact y_faz (k := 1) rfl Try.underlying33 rfl rfl Try.sizeOf9 rfl | exact y_fa (k := 1) rfl Try.underlying33 rfl rfl Try.sizeOf9 rfl)) ?_
          refine vc_y rfl rfl ((by first | exact y_ld st 0 rfl Try.isAgg9 rfl rfl | exact y_ld st 1 rfl Try.isAgg9 rfl rfl | exact y_ld st 2 rfl Try.isAgg9 rfl rfl)) ?_
          refine vc_e (e_call [_] rfl rfl Try.call17 rfl (rword_any _ _) ?_)
          rintro _ w ⟨rfl, rfl⟩
          refine vc_end ?_
          refine vq_then ?_
          refine vc_keep [(1, _), (4, _), (7, _), (8, _), (43, _)] ⟨rfl, rfl, rfl, rfl, rfl, trivial⟩ ?_
          refine vc_ifs rfl ?_ ?_
          · intro hc43
            try simp only [decide_eq_true_eq, decide_eq_false_iff_not, Bool.not_eq_true', Bool.not_eq_false', Bool.not_eq_true, Bool.not_eq_false, Int.not_lt, Int.not_le, Nat.not_lt, Nat.not_le, Bool.not_true, Bool.not_false, Bool.true_eq_false, Bool.false_eq_true] at hc43
            refine vc_region ?_
            refine vc_y rfl rfl (y_fa0 rfl Try.underlying33 rfl rfl Try.sizeOf31 rfl) ?_
            first
            | refine vc_e (e_st st 0 rfl rfl rfl rfl Try.sizeOf31 rfl rfl (by first | (right; assumption) | (left; simp)) ?_)
            | refine vc_e (e_st st 1 rfl rfl rfl rfl Try.sizeOf31 rfl rfl (by first | (right; assumption) | (left; simp)) ?_)
            | refine vc_e (e_st st 2 rfl rfl rfl rfl Try.sizeOf31 rfl rfl (by first | (right; assumption) | (left; simp)) ?_)
            intro w st; dsimp only [setNth, wr] at st
            refine vc_end ?_
            refine vq_then ?_
            refine vc_keep [(1, _), (4, _), (7, _), (8, _)] ⟨rfl, rfl, rfl, rfl, trivial⟩ ?_
            refine vc_seq ?_
            refine vc_seq ?_
            refine vc_region ?_
            refine vc_y rfl rfl (y_mv rfl) ?_
            refine vc_y rfl rfl (y_mv rfl) ?_
            refine vc_y rfl rfl (y_sub rfl rfl rfl (by omega) (by omega)) ?_
            refine vc_y rfl rfl (y_gtr rfl rfl) ?_
            refine vc_end ?_
            refine vq_then ?_
            refine vc_keep [(1, _), (4, _), (8, _), (48, _)] ⟨rfl, rfl, rfl, rfl, trivial⟩ ?_
            refine vc_ifs rfl ?_ ?_
            · intro hc48
              try simp only [decide_eq_true_eq, decide_eq_false_iff_not, Bool.not_eq_true', Bool.not_eq_false', Bool.not_eq_true, Bool.not_eq_false, Int.not_lt, Int.not_le, Nat.not_lt, Nat.not_le, Bool.not_true, Bool.not_false, Bool.true_eq_false, Bool.false_eq_true] at hc48
              refine vc_seq ?_
              refine vc_region ?_
              refine vc_y rfl rfl ((by first | exact y_lda (vs := [_, _, _, _]) st 0 rfl Try.isAgg33 Try.sizeOf33 rfl rfl | exact y_lda (vs := [_, _, _, _]) st 1 rfl Try.isAgg33 Try.sizeOf33 rfl rfl | exact y_lda (vs := [_, _, _, _]) st 2 rfl Try.isAgg33 Try.sizeOf33 rfl rfl)) ?_
              refine vc_y rfl rfl (y_mv rfl) ?_
              refine vc_y rfl rfl (y_add rfl rfl (by omega : _ = ((i + 32 : Nat) : Int)) (by omega) (by omega)) ?_
              first
              | refine vc_e (e_sts (vs := [_, _, _, _]) st 0 rfl rfl rfl rfl rfl Try.sizeOf33 rfl rfl (by first | (right; assumption) | (left; simp)) ?_)
              | refine vc_e (e_sts (vs := [_, _, _, _]) st 1 rfl rfl rfl rfl rfl Try.sizeOf33 rfl rfl (by first | (right; assumption) | (left; simp)) ?_)
              | refine vc_e (e_sts (vs := [_, _, _, _]) st 2 rfl rfl rfl rfl rfl Try.sizeOf33 rfl rfl (by first | (right; assumption) | (left; simp)) ?_)
              intro w st; dsimp only [setNth, wr] at st
              refine vc_y rfl rfl (y_as rfl) ?_
              refine vc_y rfl rfl (y_as rfl) ?_
              refine vc_end ?_
              refine vq_then ?_
              refine vc_keep [(4, _), (5, _), (6, _)] ⟨rfl, rfl, rfl, trivial⟩ ?_
              refine vc_ret ?_
              refine vq_then_ret ?_
              refine vq_block_ret ?_
              refine vq_then_ret ?_
              refine vq_ret3 st (.inl rfl) Try.results37 (by first | exact .cell 0 rfl rfl Try.isAgg33 Try.sizeOf33 | exact .cell 1 rfl rfl Try.isAgg33 Try.sizeOf33 | exact .cell 2 rfl rfl Try.isAgg33 Try.sizeOf33) (.tmp rfl) (.tmp rfl) ?_
              refine ⟨_, rfl, ?_⟩
              have hlen : (List.take (j - i) (List.drop i s)).length = j - i := by simp; omega
              refine ⟨?_, st.chg⟩
              rw [tokAt_word hi (by assumption), hT, hlen]
              first
              | (exfalso; have := isWord_len hc43; omega)
              | (rw [if_pos hc43]; rfl)
              | (rw [if_neg (by rw [hc43]; simp), if_pos (by omega)]; exact ⟨_, _, _, _, rfl⟩)
              | (rw [if_neg (by rw [hc43]; simp), if_neg (by omega)]; rfl)
            · intro hc48
              try simp only [decide_eq_true_eq, decide_eq_false_iff_not, Bool.not_eq_true', Bool.not_eq_false', Bool.not_eq_true, Bool.not_eq_false, Int.not_lt, Int.not_le, Nat.not_lt, Nat.not_le, Bool.not_true, Bool.not_false, Bool.true_eq_false, Bool.false_eq_true] at hc48
              refine vc_code_skip ?_
              refine vq_then ?_
              refine vc_keep [(4, _), (8, _)] ⟨rfl, rfl, trivial⟩ ?_
              refine vc_seq ?_
              refine vc_region ?_
              refine vc_y rfl rfl ((by first | exact y_lda (vs := [_, _, _, _]) st 0 rfl Try.isAgg33 Try.sizeOf33 rfl rfl | exact y_lda (vs := [_, _, _, _]) st 1 rfl Try.isAgg33 Try.sizeOf33 rfl rfl | exact y_lda (vs := [_, _, _, _]) st 2 rfl Try.isAgg33 Try.sizeOf33 rfl rfl)) ?_
              first
              | refine vc_e (e_sts (vs := [_, _, _, _]) st 0 rfl rfl rfl rfl rfl Try.sizeOf33 rfl rfl (by first | (right; assumption) | (left; simp)) ?_)
              | refine vc_e (e_sts (vs := [_, _, _, _]) st 1 rfl rfl rfl rfl rfl Try.sizeOf33 rfl rfl (by first | (right; assumption) | (left; simp)) ?_)
              | refine vc_e (e_sts (vs := [_, _, _, _]) st 2 rfl rfl rfl rfl rfl Try.sizeOf33 rfl rfl (by first | (right; assumption) | (left; simp)) ?_)
              intro w st; dsimp only [setNth, wr] at st
              refine vc_y rfl rfl (y_as rfl) ?_
              refine vc_y rfl rfl (y_as rfl) ?_
              refine vc_end ?_
              refine vq_then ?_
              refine vc_keep [(4, _), (5, _), (6, _)] ⟨rfl, rfl, rfl, trivial⟩ ?_
              refine vc_ret ?_
              refine vq_block_ret ?_
              refine vq_then_ret ?_
              refine vq_ret3 st (.inl rfl) Try.results37 (by first | exact .cell 0 rfl rfl Try.isAgg33 Try.sizeOf33 | exact .cell 1 rfl rfl Try.isAgg33 Try.sizeOf33 | exact .cell 2 rfl rfl Try.isAgg33 Try.sizeOf33) (.tmp rfl) (.tmp rfl) ?_
              refine ⟨_, rfl, ?_⟩
              have hlen : (List.take (j - i) (List.drop i s)).length = j - i := by simp; omega
              refine ⟨?_, st.chg⟩
              rw [tokAt_word hi (by assumption), hT, hlen]
              first
              | (exfalso; have := isWord_len hc43; omega)
              | (rw [if_pos hc43]; rfl)
              | (rw [if_neg (by rw [hc43]; simp), if_pos (by omega)]; exact ⟨_, _, _, _, rfl⟩)
              | (rw [if_neg (by rw [hc43]; simp), if_neg (by omega)]; rfl)
          · intro hc43
            try simp only [decide_eq_true_eq, decide_eq_false_iff_not, Bool.not_eq_true', Bool.not_eq_false', Bool.not_eq_true, Bool.not_eq_false, Int.not_lt, Int.not_le, Nat.not_lt, Nat.not_le, Bool.not_true, Bool.not_false, Bool.true_eq_false, Bool.false_eq_true] at hc43
            refine vc_code_skip ?_
            refine vq_then ?_
            refine vc_keep [(1, _), (4, _), (7, _), (8, _)] ⟨rfl, rfl, rfl, rfl, trivial⟩ ?_
            refine vc_seq ?_
            refine vc_seq ?_
            refine vc_region ?_
            refine vc_y rfl rfl (y_mv rfl) ?_
            refine vc_y rfl rfl (y_mv rfl) ?_
            refine vc_y rfl rfl (y_sub rfl rfl rfl (by omega) (by omega)) ?_
            refine vc_y rfl rfl (y_gtr rfl rfl) ?_
            refine vc_end ?_
            refine vq_then ?_
            refine vc_keep [(1, _), (4, _), (8, _), (48, _)] ⟨rfl, rfl, rfl, rfl, trivial⟩ ?_
            refine vc_ifs rfl ?_ ?_
            · intro hc48
              try simp only [decide_eq_true_eq, decide_eq_false_iff_not, Bool.not_eq_true', Bool.not_eq_false', Bool.not_eq_true, Bool.not_eq_false, Int.not_lt, Int.not_le, Nat.not_lt, Nat.not_le, Bool.not_true, Bool.not_false, Bool.true_eq_false, Bool.false_eq_true] at hc48
              refine vc_seq ?_
              refine vc_region ?_
              refine vc_y rfl rfl ((by first | exact y_lda (vs := [_, _, _, _]) st 0 rfl Try.isAgg33 Try.sizeOf33 rfl rfl | exact y_lda (vs := [_, _, _, _]) st 1 rfl Try.isAgg33 Try.sizeOf33 rfl rfl | exact y_lda (vs := [_, _, _, _]) st 2 rfl Try.isAgg33 Try.sizeOf33 rfl rfl)) ?_
              refine vc_y rfl rfl (y_mv rfl) ?_
              refine vc_y rfl rfl (y_add rfl rfl (by omega : _ = ((i + 32 : Nat) : Int)) (by omega) (by omega)) ?_
              first
              | refine vc_e (e_sts (vs := [_, _, _, _]) st 0 rfl rfl rfl rfl rfl Try.sizeOf33 rfl rfl (by first | (right; assumption) | (left; simp)) ?_)
              | refine vc_e (e_sts (vs := [_, _, _, _]) st 1 rfl rfl rfl rfl rfl Try.sizeOf33 rfl rfl (by first | (right; assumption) | (left; simp)) ?_)
              | refine vc_e (e_sts (vs := [_, _, _, _]) st 2 rfl rfl rfl rfl rfl Try.sizeOf33 rfl rfl (by first | (right; assumption) | (left; simp)) ?_)
              intro w st; dsimp only [setNth, wr] at st
              refine vc_y rfl rfl (y_as rfl) ?_
              refine vc_y rfl rfl (y_as rfl) ?_
              refine vc_end ?_
              refine vq_then ?_
              refine vc_keep [(4, _), (5, _), (6, _)] ⟨rfl, rfl, rfl, trivial⟩ ?_
              refine vc_ret ?_
              refine vq_then_ret ?_
              refine vq_block_ret ?_
              refine vq_then_ret ?_
              refine vq_ret3 st (.inl rfl) Try.results37 (by first | exact .cell 0 rfl rfl Try.isAgg33 Try.sizeOf33 | exact .cell 1 rfl rfl Try.isAgg33 Try.sizeOf33 | exact .cell 2 rfl rfl Try.isAgg33 Try.sizeOf33) (.tmp rfl) (.tmp rfl) ?_
              refine ⟨_, rfl, ?_⟩
              have hlen : (List.take (j - i) (List.drop i s)).length = j - i := by simp; omega
              refine ⟨?_, st.chg⟩
              rw [tokAt_word hi (by assumption), hT, hlen]
              first
              | (exfalso; have := isWord_len hc43; omega)
              | (rw [if_pos hc43]; rfl)
              | (rw [if_neg (by rw [hc43]; simp), if_pos (by omega)]; exact ⟨_, _, _, _, rfl⟩)
              | (rw [if_neg (by rw [hc43]; simp), if_neg (by omega)]; rfl)
            · intro hc48
              try simp only [decide_eq_true_eq, decide_eq_false_iff_not, Bool.not_eq_true', Bool.not_eq_false', Bool.not_eq_true, Bool.not_eq_false, Int.not_lt, Int.not_le, Nat.not_lt, Nat.not_le, Bool.not_true, Bool.not_false, Bool.true_eq_false, Bool.false_eq_true] at hc48
              refine vc_code_skip ?_
              refine vq_then ?_
              refine vc_keep [(4, _), (8, _)] ⟨rfl, rfl, trivial⟩ ?_
              refine vc_seq ?_
              refine vc_region ?_
              refine vc_y rfl rfl ((by first | exact y_lda (vs := [_, _, _, _]) st 0 rfl Try.isAgg33 Try.sizeOf33 rfl rfl | exact y_lda (vs := [_, _, _, _]) st 1 rfl Try.isAgg33 Try.sizeOf33 rfl rfl | exact y_lda (vs := [_, _, _, _]) st 2 rfl Try.isAgg33 Try.sizeOf33 rfl rfl)) ?_
              first
              | refine vc_e (e_sts (vs := [_, _, _, _]) st 0 rfl rfl rfl rfl rfl Try.sizeOf33 rfl rfl (by first | (right; assumption) | (left; simp)) ?_)
              | refine vc_e (e_sts (vs := [_, _, _, _]) st 1 rfl rfl rfl rfl rfl Try.sizeOf33 rfl rfl (by first | (right; assumption) | (left; simp)) ?_)
              | refine vc_e (e_sts (vs := [_, _, _, _]) st 2 rfl rfl rfl rfl rfl Try.sizeOf33 rfl rfl (by first | (right; assumption) | (left; simp)) ?_)
              intro w st; dsimp only [setNth, wr] at st
              refine vc_y rfl rfl (y_as rfl) ?_
              refine vc_y rfl rfl (y_as rfl) ?_
              refine vc_end ?_
              refine vq_then ?_
              refine vc_keep [(4, _), (5, _), (6, _)] ⟨rfl, rfl, rfl, trivial⟩ ?_
              refine vc_ret ?_
              refine vq_block_ret ?_
              refine vq_then_ret ?_
              refine vq_ret3 st (.inl rfl) Try.results37 (by first | exact .cell 0 rfl rfl Try.isAgg33 Try.sizeOf33 | exact .cell 1 rfl rfl Try.isAgg33 Try.sizeOf33 | exact .cell 2 rfl rfl Try.isAgg33 Try.sizeOf33) (.tmp rfl) (.tmp rfl) ?_
              refine ⟨_, rfl, ?_⟩
              have hlen : (List.take (j - i) (List.drop i s)).length = j - i := by simp; omega
              refine ⟨?_, st.chg⟩
              rw [tokAt_word hi (by assumption), hT, hlen]
              first
              | (exfalso; have := isWord_len hc43; omega)
              | (rw [if_pos hc43]; rfl)
              | (rw [if_neg (by rw [hc43]; simp), if_pos (by omega)]; exact ⟨_, _, _, _, rfl⟩)
              | (rw [if_neg (by rw [hc43]; simp), if_neg (by omega)]; rfl)
    · intro hg21
      try simp only [decide_eq_true_eq, decide_eq_false_iff_not, Bool.not_eq_true', Bool.not_eq_false', Bool.not_eq_true, Bool.not_eq_false, Int.not_lt, Int.not_le, Nat.not_lt, Nat.not_le, Bool.not_true, Bool.not_false, Bool.true_eq_false, Bool.false_eq_true] at hg21
      have hT := tw_end (fun h => absurd h (by omega)) he
      refine vc_e (e_skip rfl rfl ?_)
      refine vc_e (e_skip rfl rfl ?_)
      refine vc_e (e_skip rfl rfl ?_)
      refine vc_e (e_skip rfl rfl ?_)
      refine vc_e (e_skip rfl rfl ?_)
      refine vc_e (e_skip rfl rfl ?_)
      refine vc_e (e_skip rfl rfl ?_)
      refine vc_e (e_skip rfl rfl ?_)
      refine vc_e (e_skip rfl rfl ?_)
      refine vc_e (e_skip rfl rfl ?_)
      refine vc_y rfl rfl (y_pickf rfl rfl) ?_
      refine vc_end ?_
      refine vq_then ?_
      refine vc_keep [(0, _), (1, _), (4, _), (7, _), (32, _)] ⟨rfl, rfl, rfl, rfl, rfl, trivial⟩ ?_
      refine vc_iff rfl ?_
      refine vc_exit ?_
      refine vq_then_exit ?_
      refine vq_then_exit ?_
      refine vq_block_exit ?_
      refine vq_then ?_
      refine vc_keep [(0, _), (1, _), (4, _), (7, _)] ⟨rfl, rfl, rfl, rfl, trivial⟩ ?_
      refine vc_seq ?_
      refine vc_region ?_
      refine vc_y rfl rfl (y_mv rfl) ?_
      refine vc_y rfl rfl (y_mv rfl) ?_
      refine vc_y rfl rfl (y_mv rfl) ?_
      refine vc_y rfl rfl (y_sls (i := i) (j := j) rfl rfl rfl Try.underlying9 rfl rfl (by omega) (by omega)) ?_
      refine vc_y rfl rfl (y_mv rfl) ?_
      refine vc_y rfl rfl (y_bld (.agg #[_, _, _, _]) [(0, _), (1, _), (3, _)] rfl (fun w => by simp [Instr.build, go_sem] <;> repeat' constructor)) ?_
      refine vc_e (e_al (l := [_, _, _, _]) st rfl rfl Try.zeroValue33 rfl ?_)
      intro b8 w hb8 st
      first
      | refine vc_e (e_sts (vs := [_, _, _, _]) st 0 rfl rfl rfl rfl rfl Try.sizeOf33 rfl rfl (by first | (right; assumption) | (left; simp)) ?_)
      | refine vc_e (e_sts (vs := [_, _, _, _]) st 1 rfl rfl rfl rfl rfl Try.sizeOf33 rfl rfl (by first | (right; assumption) | (left; simp)) ?_)
      | refine vc_e (e_sts (vs := [_, _, _, _]) st 2 rfl rfl rfl rfl rfl Try.sizeOf33 rfl rfl (by first | (right; assumption) | (left; simp)) ?_)
      intro w st; dsimp only [setNth, wr] at st
      refine vc_end ?_
      refine vq_then ?_
      refine vc_keep [(1, _), (4, _), (7, _), (8, _)] ⟨rfl, rfl, rfl, rfl, trivial⟩ ?_
      refine vc_seq ?_
      refine vc_seq ?_
      refine vc_region ?_
      refine vc_y rfl rfl ((by first | exact y_faz (k := 1) rfl Try.underlying33 rfl rfl Try.sizeOf9 rfl | exact y_fa (k := 1) rfl Try.underlying33 rfl rfl Try.sizeOf9 rfl)) ?_
      refine vc_y rfl rfl ((by first | exact y_ld st 0 rfl Try.isAgg9 rfl rfl | exact y_ld st 1 rfl Try.isAgg9 rfl rfl | exact y_ld st 2 rfl Try.isAgg9 rfl rfl)) ?_
      refine vc_e (e_call [_] rfl rfl Try.call17 rfl (rword_any _ _) ?_)
      rintro _ w ⟨rfl, rfl⟩
      refine vc_end ?_
      refine vq_then ?_
      refine vc_keep [(1, _), (4, _), (7, _), (8, _), (43, _)] ⟨rfl, rfl, rfl, rfl, rfl, trivial⟩ ?_
      refine vc_ifs rfl ?_ ?_
      · intro hc43
        try simp only [decide_eq_true_eq, decide_eq_false_iff_not, Bool.not_eq_true', Bool.not_eq_false', Bool.not_eq_true, Bool.not_eq_false, Int.not_lt, Int.not_le, Nat.not_lt, Nat.not_le, Bool.not_true, Bool.not_false, Bool.true_eq_false, Bool.false_eq_true] at hc43
        refine vc_region ?_
        refine vc_y rfl rfl (y_fa0 rfl Try.underlying33 rfl rfl Try.sizeOf31 rfl) ?_
        first
        | refine vc_e (e_st st 0 rfl rfl rfl rfl Try.sizeOf31 rfl rfl (by first | (right; assumption) | (left; simp)) ?_)
        | refine vc_e (e_st st 1 rfl rfl rfl rfl Try.sizeOf31 rfl rfl (by first | (right; assumption) | (left; simp)) ?_)
        | refine vc_e (e_st st 2 rfl rfl rfl rfl Try.sizeOf31 rfl rfl (by first | (right; assumption) | (left; simp)) ?_)
        intro w st; dsimp only [setNth, wr] at st
        refine vc_end ?_
        refine vq_then ?_
        refine vc_keep [(1, _), (4, _), (7, _), (8, _)] ⟨rfl, rfl, rfl, rfl, trivial⟩ ?_
        refine vc_seq ?_
        refine vc_seq ?_
        refine vc_region ?_
        refine vc_y rfl rfl (y_mv rfl) ?_
        refine vc_y rfl rfl (y_mv rfl) ?_
        refine vc_y rfl rfl (y_sub rfl rfl rfl (by omega) (by omega)) ?_
        refine vc_y rfl rfl (y_gtr rfl rfl) ?_
        refine vc_end ?_
        refine vq_then ?_
        refine vc_keep [(1, _), (4, _), (8, _), (48, _)] ⟨rfl, rfl, rfl, rfl, trivial⟩ ?_
        refine vc_ifs rfl ?_ ?_
        · intro hc48
          try simp only [decide_eq_true_eq, decide_eq_false_iff_not, Bool.not_eq_true', Bool.not_eq_false', Bool.not_eq_true, Bool.not_eq_false, Int.not_lt, Int.not_le, Nat.not_lt, Nat.not_le, Bool.not_true, Bool.not_false, Bool.true_eq_false, Bool.false_eq_true] at hc48
          refine vc_seq ?_
          refine vc_region ?_
          refine vc_y rfl rfl ((by first | exact y_lda (vs := [_, _, _, _]) st 0 rfl Try.isAgg33 Try.sizeOf33 rfl rfl | exact y_lda (vs := [_, _, _, _]) st 1 rfl Try.isAgg33 Try.sizeOf33 rfl rfl | exact y_lda (vs := [_, _, _, _]) st 2 rfl Try.isAgg33 Try.sizeOf33 rfl rfl)) ?_
          refine vc_y rfl rfl (y_mv rfl) ?_
          refine vc_y rfl rfl (y_add rfl rfl (by omega : _ = ((i + 32 : Nat) : Int)) (by omega) (by omega)) ?_
          first
          | refine vc_e (e_sts (vs := [_, _, _, _]) st 0 rfl rfl rfl rfl rfl Try.sizeOf33 rfl rfl (by first | (right; assumption) | (left; simp)) ?_)
          | refine vc_e (e_sts (vs := [_, _, _, _]) st 1 rfl rfl rfl rfl rfl Try.sizeOf33 rfl rfl (by first | (right; assumption) | (left; simp)) ?_)
          | refine vc_e (e_sts (vs := [_, _, _, _]) st 2 rfl rfl rfl rfl rfl Try.sizeOf33 rfl rfl (by first | (right; assumption) | (left; simp)) ?_)
          intro w st; dsimp only [setNth, wr] at st
          refine vc_y rfl rfl (y_as rfl) ?_
          refine vc_y rfl rfl (y_as rfl) ?_
          refine vc_end ?_
          refine vq_then ?_
          refine vc_keep [(4, _), (5, _), (6, _)] ⟨rfl, rfl, rfl, trivial⟩ ?_
          refine vc_ret ?_
          refine vq_then_ret ?_
          refine vq_block_ret ?_
          refine vq_then_ret ?_
          refine vq_ret3 st (.inl rfl) Try.results37 (by first | exact .cell 0 rfl rfl Try.isAgg33 Try.sizeOf33 | exact .cell 1 rfl rfl Try.isAgg33 Try.sizeOf33 | exact .cell 2 rfl rfl Try.isAgg33 Try.sizeOf33) (.tmp rfl) (.tmp rfl) ?_
          refine ⟨_, rfl, ?_⟩
          have hlen : (List.take (j - i) (List.drop i s)).length = j - i := by simp; omega
          refine ⟨?_, st.chg⟩
          rw [tokAt_word hi (by assumption), hT, hlen]
          first
          | (exfalso; have := isWord_len hc43; omega)
          | (rw [if_pos hc43]; rfl)
          | (rw [if_neg (by rw [hc43]; simp), if_pos (by omega)]; exact ⟨_, _, _, _, rfl⟩)
          | (rw [if_neg (by rw [hc43]; simp), if_neg (by omega)]; rfl)
        · intro hc48
          try simp only [decide_eq_true_eq, decide_eq_false_iff_not, Bool.not_eq_true', Bool.not_eq_false', Bool.not_eq_true, Bool.not_eq_false, Int.not_lt, Int.not_le, Nat.not_lt, Nat.not_le, Bool.not_true, Bool.not_false, Bool.true_eq_false, Bool.false_eq_true] at hc48
          refine vc_code_skip ?_
          refine vq_then ?_
          refine vc_keep [(4, _), (8, _)] ⟨rfl, rfl, trivial⟩ ?_
          refine vc_seq ?_
          refine vc_region ?_
          refine vc_y rfl rfl ((by first | exact y_lda (vs := [_, _, _, _]) st 0 rfl Try.isAgg33 Try.sizeOf33 rfl rfl | exact y_lda (vs := [_, _, _, _]) st 1 rfl Try.isAgg33 Try.sizeOf33 rfl rfl | exact y_lda (vs := [_, _, _, _]) st 2 rfl Try.isAgg33 Try.sizeOf33 rfl rfl)) ?_
          first
          | refine vc_e (e_sts (vs := [_, _, _, _]) st 0 rfl rfl rfl rfl rfl Try.sizeOf33 rfl rfl (by first | (right; assumption) | (left; simp)) ?_)
          | refine vc_e (e_sts (vs := [_, _, _, _]) st 1 rfl rfl rfl rfl rfl Try.sizeOf33 rfl rfl (by first | (right; assumption) | (left; simp)) ?_)
          | refine vc_e (e_sts (vs := [_, _, _, _]) st 2 rfl rfl rfl rfl rfl Try.sizeOf33 rfl rfl (by first | (right; assumption) | (left; simp)) ?_)
          intro w st; dsimp only [setNth, wr] at st
          refine vc_y rfl rfl (y_as rfl) ?_
          refine vc_y rfl rfl (y_as rfl) ?_
          refine vc_end ?_
          refine vq_then ?_
          refine vc_keep [(4, _), (5, _), (6, _)] ⟨rfl, rfl, rfl, trivial⟩ ?_
          refine vc_ret ?_
          refine vq_block_ret ?_
          refine vq_then_ret ?_
          refine vq_ret3 st (.inl rfl) Try.results37 (by first | exact .cell 0 rfl rfl Try.isAgg33 Try.sizeOf33 | exact .cell 1 rfl rfl Try.isAgg33 Try.sizeOf33 | exact .cell 2 rfl rfl Try.isAgg33 Try.sizeOf33) (.tmp rfl) (.tmp rfl) ?_
          refine ⟨_, rfl, ?_⟩
          have hlen : (List.take (j - i) (List.drop i s)).length = j - i := by simp; omega
          refine ⟨?_, st.chg⟩
          rw [tokAt_word hi (by assumption), hT, hlen]
          first
          | (exfalso; have := isWord_len hc43; omega)
          | (rw [if_pos hc43]; rfl)
          | (rw [if_neg (by rw [hc43]; simp), if_pos (by omega)]; exact ⟨_, _, _, _, rfl⟩)
          | (rw [if_neg (by rw [hc43]; simp), if_neg (by omega)]; rfl)
      · intro hc43
        try simp only [decide_eq_true_eq, decide_eq_false_iff_not, Bool.not_eq_true', Bool.not_eq_false', Bool.not_eq_true, Bool.not_eq_false, Int.not_lt, Int.not_le, Nat.not_lt, Nat.not_le, Bool.not_true, Bool.not_false, Bool.true_eq_false, Bool.false_eq_true] at hc43
        refine vc_code_skip ?_
        refine vq_then ?_
        refine vc_keep [(1, _), (4, _), (7, _), (8, _)] ⟨rfl, rfl, rfl, rfl, trivial⟩ ?_
        refine vc_seq ?_
        refine vc_seq ?_
        refine vc_region ?_
        refine vc_y rfl rfl (y_mv rfl) ?_
        refine vc_y rfl rfl (y_mv rfl) ?_
        refine vc_y rfl rfl (y_sub rfl rfl rfl (by omega) (by omega)) ?_
        refine vc_y rfl rfl (y_gtr rfl rfl) ?_
        refine vc_end ?_
        refine vq_then ?_
        refine vc_keep [(1, _), (4, _), (8, _), (48, _)] ⟨rfl, rfl, rfl, rfl, trivial⟩ ?_
        refine vc_ifs rfl ?_ ?_
        · intro hc48
          try simp only [decide_eq_true_eq, decide_eq_false_iff_not, Bool.not_eq_true', Bool.not_eq_false', Bool.not_eq_true, Bool.not_eq_false, Int.not_lt, Int.not_le, Nat.not_lt, Nat.not_le, Bool.not_true, Bool.not_false, Bool.true_eq_false, Bool.false_eq_true] at hc48
          refine vc_seq ?_
          refine vc_region ?_
          refine vc_y rfl rfl ((by first | exact y_lda (vs := [_, _, _, _]) st 0 rfl Try.isAgg33 Try.sizeOf33 rfl rfl | exact y_lda (vs := [_, _, _, _]) st 1 rfl Try.isAgg33 Try.sizeOf33 rfl rfl | exact y_lda (vs := [_, _, _, _]) st 2 rfl Try.isAgg33 Try.sizeOf33 rfl rfl)) ?_
          refine vc_y rfl rfl (y_mv rfl) ?_
          refine vc_y rfl rfl (y_add rfl rfl (by omega : _ = ((i + 32 : Nat) : Int)) (by omega) (by omega)) ?_
          first
          | refine vc_e (e_sts (vs := [_, _, _, _]) st 0 rfl rfl rfl rfl rfl Try.sizeOf33 rfl rfl (by first | (right; assumption) | (left; simp)) ?_)
          | refine vc_e (e_sts (vs := [_, _, _, _]) st 1 rfl rfl rfl rfl rfl Try.sizeOf33 rfl rfl (by first | (right; assumption) | (left; simp)) ?_)
          | refine vc_e (e_sts (vs := [_, _, _, _]) st 2 rfl rfl rfl rfl rfl Try.sizeOf33 rfl rfl (by first | (right; assumption) | (left; simp)) ?_)
          intro w st; dsimp only [setNth, wr] at st
          refine vc_y rfl rfl (y_as rfl) ?_
          refine vc_y rfl rfl (y_as rfl) ?_
          refine vc_end ?_
          refine vq_then ?_
          refine vc_keep [(4, _), (5, _), (6, _)] ⟨rfl, rfl, rfl, trivial⟩ ?_
          refine vc_ret ?_
          refine vq_then_ret ?_
          refine vq_block_ret ?_
          refine vq_then_ret ?_
          refine vq_ret3 st (.inl rfl) Try.results37 (by first | exact .cell 0 rfl rfl Try.isAgg33 Try.sizeOf33 | exact .cell 1 rfl rfl Try.isAgg33 Try.sizeOf33 | exact .cell 2 rfl rfl Try.isAgg33 Try.sizeOf33) (.tmp rfl) (.tmp rfl) ?_
          refine ⟨_, rfl, ?_⟩
          have hlen : (List.take (j - i) (List.drop i s)).length = j - i := by simp; omega
          refine ⟨?_, st.chg⟩
          rw [tokAt_word hi (by assumption), hT, hlen]
          first
          | (exfalso; have := isWord_len hc43; omega)
          | (rw [if_pos hc43]; rfl)
          | (rw [if_neg (by rw [hc43]; simp), if_pos (by omega)]; exact ⟨_, _, _, _, rfl⟩)
          | (rw [if_neg (by rw [hc43]; simp), if_neg (by omega)]; rfl)
        · intro hc48
          try simp only [decide_eq_true_eq, decide_eq_false_iff_not, Bool.not_eq_true', Bool.not_eq_false', Bool.not_eq_true, Bool.not_eq_false, Int.not_lt, Int.not_le, Nat.not_lt, Nat.not_le, Bool.not_true, Bool.not_false, Bool.true_eq_false, Bool.false_eq_true] at hc48
          refine vc_code_skip ?_
          refine vq_then ?_
          refine vc_keep [(4, _), (8, _)] ⟨rfl, rfl, trivial⟩ ?_
          refine vc_seq ?_
          refine vc_region ?_
          refine vc_y rfl rfl ((by first | exact y_lda (vs := [_, _, _, _]) st 0 rfl Try.isAgg33 Try.sizeOf33 rfl rfl | exact y_lda (vs := [_, _, _, _]) st 1 rfl Try.isAgg33 Try.sizeOf33 rfl rfl | exact y_lda (vs := [_, _, _, _]) st 2 rfl Try.isAgg33 Try.sizeOf33 rfl rfl)) ?_
          first
          | refine vc_e (e_sts (vs := [_, _, _, _]) st 0 rfl rfl rfl rfl rfl Try.sizeOf33 rfl rfl (by first | (right; assumption) | (left; simp)) ?_)
          | refine vc_e (e_sts (vs := [_, _, _, _]) st 1 rfl rfl rfl rfl rfl Try.sizeOf33 rfl rfl (by first | (right; assumption) | (left; simp)) ?_)
          | refine vc_e (e_sts (vs := [_, _, _, _]) st 2 rfl rfl rfl rfl rfl Try.sizeOf33 rfl rfl (by first | (right; assumption) | (left; simp)) ?_)
          intro w st; dsimp only [setNth, wr] at st
          refine vc_y rfl rfl (y_as rfl) ?_
          refine vc_y rfl rfl (y_as rfl) ?_
          refine vc_end ?_
          refine vq_then ?_
          refine vc_keep [(4, _), (5, _), (6, _)] ⟨rfl, rfl, rfl, trivial⟩ ?_
          refine vc_ret ?_
          refine vq_block_ret ?_
          refine vq_then_ret ?_
          refine vq_ret3 st (.inl rfl) Try.results37 (by first | exact .cell 0 rfl rfl Try.isAgg33 Try.sizeOf33 | exact .cell 1 rfl rfl Try.isAgg33 Try.sizeOf33 | exact .cell 2 rfl rfl Try.isAgg33 Try.sizeOf33) (.tmp rfl) (.tmp rfl) ?_
          refine ⟨_, rfl, ?_⟩
          have hlen : (List.take (j - i) (List.drop i s)).length = j - i := by simp; omega
          refine ⟨?_, st.chg⟩
          rw [tokAt_word hi (by assumption), hT, hlen]
          first
          | (exfalso; have := isWord_len hc43; omega)
          | (rw [if_pos hc43]; rfl)
          | (rw [if_neg (by rw [hc43]; simp), if_pos (by omega)]; exact ⟨_, _, _, _, rfl⟩)
          | (rw [if_neg (by rw [hc43]; simp), if_neg (by omega)]; rfl)
  · intro hc12
    try simp only [decide_eq_true_eq, decide_eq_false_iff_not, Bool.not_eq_true', Bool.not_eq_false', Bool.not_eq_true, Bool.not_eq_false, Int.not_lt, Int.not_le, Nat.not_lt, Nat.not_le, Bool.not_true, Bool.not_false, Bool.true_eq_false, Bool.false_eq_true] at hc12
    refine vc_seq ?_
    refine vc_region ?_
    refine vc_y rfl rfl (y_mv rfl) ?_
    refine vc_y rfl rfl (y_mv rfl) ?_
    refine vc_y rfl rfl (y_ixs (k := i) rfl rfl Try.underlying9 rfl (by omega)) ?_
    refine vc_e (e_call [_] rfl rfl Try.call32 rfl (rdigit_any _ _) ?_)
    rintro _ w ⟨rfl, rfl⟩
    refine vc_y rfl rfl (y_as rfl) ?_
    refine vc_end ?_
    refine vq_then ?_
    refine vc_keep [(0, _), (1, _), (4, _), (7, _), (53, _)] ⟨rfl, rfl, rfl, rfl, rfl, trivial⟩ ?_
    refine vc_ifs rfl ?_ ?_
    · intro hc53
      try simp only [decide_eq_true_eq, decide_eq_false_iff_not, Bool.not_eq_true', Bool.not_eq_false', Bool.not_eq_true, Bool.not_eq_false, Int.not_lt, Int.not_le, Nat.not_lt, Nat.not_le, Bool.not_true, Bool.not_false, Bool.true_eq_false, Bool.false_eq_true] at hc53
      refine vc_seq ?_
      refine vc_block ?_
      refine vc_loop (w0 := _) (M := _) (fun (j : Nat) => [(0, str s), (1, .int .i64 (i : Int)), (4, .pointer (some ⟨b4, 0, none⟩)), (7, .int .i64 (j : Int))]) (fun _ => [.blk b4 (.cells zeroL.toArray 33 (0, 0))]) (fun j _ => i ≤ j ∧ j ≤ s.length ∧ (s.drop i).takeWhile isDigit = (s.drop i).take (j - i) ++ (s.drop j).takeWhile isDigit) (fun j => s.length - j) i ⟨rfl, rfl, rfl, rfl, trivial⟩ st ⟨by omega, by omega, by simp⟩ ?_
      rintro j w ⟨hij, hj, he⟩ st
      refine vc_seq ?_
      refine vc_seq ?_
      refine vc_region ?_
      refine vc_y rfl rfl (y_mv rfl) ?_
      refine vc_y rfl rfl (y_mv rfl) ?_
      refine vc_y rfl rfl (y_lens rfl Try.underlying9) ?_
      refine vc_y rfl rfl (y_lss rfl rfl) ?_
      refine vc_e (e_mvb rfl rfl rfl ?_ ?_)
      · intro hg62
        try simp only [decide_eq_true_eq, decide_eq_false_iff_not, Bool.not_eq_true', Bool.not_eq_false', Bool.not_eq_true, Bool.not_eq_false, Int.not_lt, Int.not_le, Nat.not_lt, Nat.not_le, Bool.not_true, Bool.not_false, Bool.true_eq_false, Bool.false_eq_true] at hg62
        refine vc_y rfl rfl (y_mv rfl) ?_
        refine vc_y rfl rfl (y_mv rfl) ?_
        refine vc_y rfl rfl (y_ixs (k := j) rfl rfl Try.underlying9 rfl (by omega)) ?_
        refine vc_e (e_call [_] rfl rfl Try.call32 rfl (rdigit_any _ _) ?_)
        rintro _ w ⟨rfl, rfl⟩
        refine vc_y rfl rfl (y_pickt rfl rfl) ?_
        refine vc_end ?_
        refine vq_then ?_
        refine vc_keep [(0, _), (1, _), (4, _), (7, _), (67, _)] ⟨rfl, rfl, rfl, rfl, rfl, trivial⟩ ?_
        refine vc_ifs rfl ?_ ?_
        · intro hc67
          try simp only [decide_eq_true_eq, decide_eq_false_iff_not, Bool.not_eq_true', Bool.not_eq_false', Bool.not_eq_true, Bool.not_eq_false, Int.not_lt, Int.not_le, Nat.not_lt, Nat.not_le, Bool.not_true, Bool.not_false, Bool.true_eq_false, Bool.false_eq_true] at hc67
          refine vc_code_skip ?_
          refine vq_then ?_
          refine vc_keep [(0, _), (1, _), (4, _), (7, _)] ⟨rfl, rfl, rfl, rfl, trivial⟩ ?_
          refine vc_block ?_
          refine vc_region ?_
          refine vc_y rfl rfl (y_mv rfl) ?_
          refine vc_y rfl rfl (y_add rfl rfl rfl (by omega) (by omega)) ?_
          refine vc_y rfl rfl (y_as rfl) ?_
          refine vc_end ?_
          refine vq_block ?_
          refine vq_again (j + 1) ⟨rfl, rfl, rfl, rfl, trivial⟩ st ?_ ?_
          · exact ⟨by omega, by omega, tw_step hij (by omega) (by assumption) he⟩
          · omega
        · intro hc67
          try simp only [decide_eq_true_eq, decide_eq_false_iff_not, Bool.not_eq_true', Bool.not_eq_false', Bool.not_eq_true, Bool.not_eq_false, Int.not_lt, Int.not_le, Nat.not_lt, Nat.not_le, Bool.not_true, Bool.not_false, Bool.true_eq_false, Bool.false_eq_true] at hc67
          have hT := tw_end (fun _ => by assumption) he
          refine vc_exit ?_
          refine vq_then_exit ?_
          refine vq_then_exit ?_
          refine vq_block_exit ?_
          refine vq_then ?_
          refine vc_keep [(0, _), (1, _), (4, _), (7, _)] ⟨rfl, rfl, rfl, rfl, trivial⟩ ?_
          refine vc_seq ?_
          refine vc_region ?_
          refine vc_y rfl rfl (y_mv rfl) ?_
          refine vc_y rfl rfl (y_mv rfl) ?_
          refine vc_y rfl rfl (y_mv rfl) ?_
          refine vc_y rfl rfl (y_sls (i := i) (j := j) rfl rfl rfl Try.underlying9 rfl rfl (by omega) (by omega)) ?_
          refine vc_e (e_call [_] rfl rfl Try.call49 rfl (rnumber_any _ _ (by simp; omega)) ?_)
          rintro _ w ⟨rfl, rfl⟩
          refine vc_y rfl rfl (y_mv rfl) ?_
          refine vc_y rfl rfl (y_ext rfl rfl) ?_
          refine vc_y rfl rfl (y_ext rfl rfl) ?_
          refine vc_y rfl rfl (y_as rfl) ?_
          refine vc_y rfl rfl (y_as rfl) ?_
          refine vc_end ?_
          refine vq_then ?_
          refine vc_keep [(0, _), (1, _), (4, _), (7, _), (9, _), (10, _)] ⟨rfl, rfl, rfl, rfl, rfl, rfl, trivial⟩ ?_
          refine vc_seq ?_
          refine vc_seq ?_
          refine vc_region ?_
          refine vc_y rfl rfl (y_mv rfl) ?_
          refine vc_y rfl rfl (y_not rfl) ?_
          refine vc_end ?_
          refine vq_then ?_
          refine vc_keep [(0, _), (1, _), (4, _), (7, _), (9, _), (79, _)] ⟨rfl, rfl, rfl, rfl, rfl, rfl, trivial⟩ ?_
          refine vc_ifs rfl ?_ ?_
          · intro hc79
            try simp only [decide_eq_true_eq, decide_eq_false_iff_not, Bool.not_eq_true', Bool.not_eq_false', Bool.not_eq_true, Bool.not_eq_false, Int.not_lt, Int.not_le, Nat.not_lt, Nat.not_le, Bool.not_true, Bool.not_false, Bool.true_eq_false, Bool.false_eq_true] at hc79
            refine vc_seq ?_
            refine vc_region ?_
            refine vc_y rfl rfl (y_bld (.agg #[_, _, _, _]) [] rfl (fun w => by simp [Instr.build, go_sem] <;> repeat' constructor)) ?_
            refine vc_y rfl rfl (y_mv rfl) ?_
            first
            | refine vc_e (e_sts (vs := [_, _, _, _]) st 0 rfl rfl rfl rfl rfl Try.sizeOf33 rfl rfl (by first | (right; assumption) | (left; simp)) ?_)
            | refine vc_e (e_sts (vs := [_, _, _, _]) st 1 rfl rfl rfl rfl rfl Try.sizeOf33 rfl rfl (by first | (right; assumption) | (left; simp)) ?_)
            | refine vc_e (e_sts (vs := [_, _, _, _]) st 2 rfl rfl rfl rfl rfl Try.sizeOf33 rfl rfl (by first | (right; assumption) | (left; simp)) ?_)
            intro w st; dsimp only [setNth, wr] at st
            refine vc_y rfl rfl (y_as rfl) ?_
            refine vc_y rfl rfl (y_as rfl) ?_
            refine vc_end ?_
            refine vq_then ?_
            refine vc_keep [(4, _), (5, _), (6, _)] ⟨rfl, rfl, rfl, trivial⟩ ?_
            refine vc_ret ?_
            refine vq_then_ret ?_
            refine vq_block_ret ?_
            refine vq_then_ret ?_
            refine vq_ret3 st (.inl rfl) Try.results37 (by first | exact .cell 0 rfl rfl Try.isAgg33 Try.sizeOf33 | exact .cell 1 rfl rfl Try.isAgg33 Try.sizeOf33 | exact .cell 2 rfl rfl Try.isAgg33 Try.sizeOf33) (.tmp rfl) (.tmp rfl) ?_
            refine ⟨_, rfl, ?_⟩
            have hlen : (List.take (j - i) (List.drop i s)).length = j - i := by simp; omega
            refine ⟨?_, st.chg⟩
            rw [numR_tok hi (by assumption) (by assumption), hT, hlen, show i + (j - i) = j by omega]
            first
            | (rw [if_pos (by assumption)]; exact ⟨_, _, _, _, rfl⟩)
            | (rw [if_neg (by rw [hc79]; simp), if_pos ⟨by omega, by assumption⟩]; exact ⟨_, _, _, _, rfl⟩)
            | (rw [if_neg (by rw [hc79]; simp), if_neg (by rintro ⟨h1, h2⟩; first | omega | simp_all)]; rfl)
          · intro hc79
            try simp only [decide_eq_true_eq, decide_eq_false_iff_not, Bool.not_eq_true', Bool.not_eq_false', Bool.not_eq_true, Bool.not_eq_false, Int.not_lt, Int.not_le, Nat.not_lt, Nat.not_le, Bool.not_true, Bool.not_false, Bool.true_eq_false, Bool.false_eq_true] at hc79
            refine vc_code_skip ?_
            refine vq_then ?_
            refine vc_keep [(0, _), (1, _), (4, _), (7, _), (9, _)] ⟨rfl, rfl, rfl, rfl, rfl, trivial⟩ ?_
            refine vc_seq ?_
            refine vc_seq ?_
            refine vc_region ?_
            refine vc_y rfl rfl (y_mv rfl) ?_
            refine vc_y rfl rfl (y_mv rfl) ?_
            refine vc_y rfl rfl (y_lens rfl Try.underlying9) ?_
            refine vc_y rfl rfl (y_lss rfl rfl) ?_
            refine vc_e (e_mvb rfl rfl rfl ?_ ?_)
            · intro hg86
              try simp only [decide_eq_true_eq, decide_eq_false_iff_not, Bool.not_eq_true', Bool.not_eq_false', Bool.not_eq_true, Bool.not_eq_false, Int.not_lt, Int.not_le, Nat.not_lt, Nat.not_le, Bool.not_true, Bool.not_false, Bool.true_eq_false, Bool.false_eq_true] at hg86
              refine vc_y rfl rfl (y_mv rfl) ?_
              refine vc_y rfl rfl (y_mv rfl) ?_
              refine vc_y rfl rfl (y_ixs (k := j) rfl rfl Try.underlying9 rfl (by omega)) ?_
              refine vc_e (e_call [_] rfl rfl Try.call33 rfl (rletter_any _ _) ?_)
              rintro _ w ⟨rfl, rfl⟩
              refine vc_y rfl rfl (y_pickt rfl rfl) ?_
              refine vc_end ?_
              refine vq_then ?_
              refine vc_keep [(0, _), (1, _), (4, _), (7, _), (9, _), (91, _)] ⟨rfl, rfl, rfl, rfl, rfl, rfl, trivial⟩ ?_
              refine vc_ifs rfl ?_ ?_
              · intro hc91
                try simp only [decide_eq_true_eq, decide_eq_false_iff_not, Bool.not_eq_true', Bool.not_eq_false', Bool.not_eq_true, Bool.not_eq_false, Int.not_lt, Int.not_le, Nat.not_lt, Nat.not_le, Bool.not_true, Bool.not_false, Bool.true_eq_false, Bool.false_eq_true] at hc91
                refine vc_seq ?_
                refine vc_region ?_
                refine vc_y rfl rfl (y_bld (.agg #[_, _, _, _]) [] rfl (fun w => by simp [Instr.build, go_sem] <;> repeat' constructor)) ?_
                refine vc_y rfl rfl (y_mv rfl) ?_
                first
                | refine vc_e (e_sts (vs := [_, _, _, _]) st 0 rfl rfl rfl rfl rfl Try.sizeOf33 rfl rfl (by first | (right; assumption) | (left; simp)) ?_)
                | refine vc_e (e_sts (vs := [_, _, _, _]) st 1 rfl rfl rfl rfl rfl Try.sizeOf33 rfl rfl (by first | (right; assumption) | (left; simp)) ?_)
                | refine vc_e (e_sts (vs := [_, _, _, _]) st 2 rfl rfl rfl rfl rfl Try.sizeOf33 rfl rfl (by first | (right; assumption) | (left; simp)) ?_)
                intro w st; dsimp only [setNth, wr] at st
                refine vc_y rfl rfl (y_as rfl) ?_
                refine vc_y rfl rfl (y_as rfl) ?_
                refine vc_end ?_
                refine vq_then ?_
                refine vc_keep [(4, _), (5, _), (6, _)] ⟨rfl, rfl, rfl, trivial⟩ ?_
                refine vc_ret ?_
                refine vq_then_ret ?_
                refine vq_block_ret ?_
                refine vq_then_ret ?_
                refine vq_ret3 st (.inl rfl) Try.results37 (by first | exact .cell 0 rfl rfl Try.isAgg33 Try.sizeOf33 | exact .cell 1 rfl rfl Try.isAgg33 Try.sizeOf33 | exact .cell 2 rfl rfl Try.isAgg33 Try.sizeOf33) (.tmp rfl) (.tmp rfl) ?_
                refine ⟨_, rfl, ?_⟩
                have hlen : (List.take (j - i) (List.drop i s)).length = j - i := by simp; omega
                refine ⟨?_, st.chg⟩
                rw [numR_tok hi (by assumption) (by assumption), hT, hlen, show i + (j - i) = j by omega]
                first
                | (rw [if_pos (by assumption)]; exact ⟨_, _, _, _, rfl⟩)
                | (rw [if_neg (by rw [hc79]; simp), if_pos ⟨by omega, by assumption⟩]; exact ⟨_, _, _, _, rfl⟩)
                | (rw [if_neg (by rw [hc79]; simp), if_neg (by rintro ⟨h1, h2⟩; first | omega | simp_all)]; rfl)
              · intro hc91
                try simp only [decide_eq_true_eq, decide_eq_false_iff_not, Bool.not_eq_true', Bool.not_eq_false', Bool.not_eq_true, Bool.not_eq_false, Int.not_lt, Int.not_le, Nat.not_lt, Nat.not_le, Bool.not_true, Bool.not_false, Bool.true_eq_false, Bool.false_eq_true] at hc91
                refine vc_code_skip ?_
                refine vq_then ?_
                refine vc_keep [(0, _), (1, _), (4, _), (7, _), (9, _)] ⟨rfl, rfl, rfl, rfl, rfl, trivial⟩ ?_
                refine vc_seq ?_
                refine vc_region ?_
                refine vc_y rfl rfl (y_mv rfl) ?_
                refine vc_y rfl rfl (y_mv rfl) ?_
                refine vc_y rfl rfl (y_mv rfl) ?_
                refine vc_y rfl rfl (y_sls (i := i) (j := j) rfl rfl rfl Try.underlying9 rfl rfl (by omega) (by omega)) ?_
                refine vc_y rfl rfl (y_mv rfl) ?_
                refine vc_y rfl rfl (y_mv rfl) ?_
                refine vc_y rfl rfl (y_bld (.agg #[_, _, _, _]) [(0, _), (1, _), (2, _), (3, _)] rfl (fun w => by simp [Instr.build, go_sem] <;> repeat' constructor)) ?_
                first
                | refine vc_e (e_sts (vs := [_, _, _, _]) st 0 rfl rfl rfl rfl rfl Try.sizeOf33 rfl rfl (by first | (right; assumption) | (left; simp)) ?_)
                | refine vc_e (e_sts (vs := [_, _, _, _]) st 1 rfl rfl rfl rfl rfl Try.sizeOf33 rfl rfl (by first | (right; assumption) | (left; simp)) ?_)
                | refine vc_e (e_sts (vs := [_, _, _, _]) st 2 rfl rfl rfl rfl rfl Try.sizeOf33 rfl rfl (by first | (right; assumption) | (left; simp)) ?_)
                intro w st; dsimp only [setNth, wr] at st
                refine vc_y rfl rfl (y_as rfl) ?_
                refine vc_y rfl rfl (y_as rfl) ?_
                refine vc_end ?_
                refine vq_then ?_
                refine vc_keep [(4, _), (5, _), (6, _)] ⟨rfl, rfl, rfl, trivial⟩ ?_
                refine vc_ret ?_
                refine vq_block_ret ?_
                refine vq_then_ret ?_
                refine vq_ret3 st (.inl rfl) Try.results37 (by first | exact .cell 0 rfl rfl Try.isAgg33 Try.sizeOf33 | exact .cell 1 rfl rfl Try.isAgg33 Try.sizeOf33 | exact .cell 2 rfl rfl Try.isAgg33 Try.sizeOf33) (.tmp rfl) (.tmp rfl) ?_
                refine ⟨_, rfl, ?_⟩
                have hlen : (List.take (j - i) (List.drop i s)).length = j - i := by simp; omega
                refine ⟨?_, st.chg⟩
                rw [numR_tok hi (by assumption) (by assumption), hT, hlen, show i + (j - i) = j by omega]
                first
                | (rw [if_pos (by assumption)]; exact ⟨_, _, _, _, rfl⟩)
                | (rw [if_neg (by rw [hc79]; simp), if_pos ⟨by omega, by assumption⟩]; exact ⟨_, _, _, _, rfl⟩)
                | (rw [if_neg (by rw [hc79]; simp), if_neg (by rintro ⟨h1, h2⟩; first | omega | simp_all)]; rfl)
            · intro hg86
              try simp only [decide_eq_true_eq, decide_eq_false_iff_not, Bool.not_eq_true', Bool.not_eq_false', Bool.not_eq_true, Bool.not_eq_false, Int.not_lt, Int.not_le, Nat.not_lt, Nat.not_le, Bool.not_true, Bool.not_false, Bool.true_eq_false, Bool.false_eq_true] at hg86
              refine vc_e (e_skip rfl rfl ?_)
              refine vc_e (e_skip rfl rfl ?_)
              refine vc_e (e_skip rfl rfl ?_)
              refine vc_e (e_skip rfl rfl ?_)
              refine vc_y rfl rfl (y_pickf rfl rfl) ?_
              refine vc_end ?_
              refine vq_then ?_
              refine vc_keep [(0, _), (1, _), (4, _), (7, _), (9, _), (91, _)] ⟨rfl, rfl, rfl, rfl, rfl, rfl, trivial⟩ ?_
              refine vc_iff rfl ?_
              refine vc_code_skip ?_
              refine vq_then ?_
              refine vc_keep [(0, _), (1, _), (4, _), (7, _), (9, _)] ⟨rfl, rfl, rfl, rfl, rfl, trivial⟩ ?_
              refine vc_seq ?_
              refine vc_region ?_
              refine vc_y rfl rfl (y_mv rfl) ?_
              refine vc_y rfl rfl (y_mv rfl) ?_
              refine vc_y rfl rfl (y_mv rfl) ?_
              refine vc_y rfl rfl (y_sls (i := i) (j := j) rfl rfl rfl Try.underlying9 rfl rfl (by omega) (by omega)) ?_
              refine vc_y rfl rfl (y_mv rfl) ?_
              refine vc_y rfl rfl (y_mv rfl) ?_
              refine vc_y rfl rfl (y_bld (.agg #[_, _, _, _]) [(0, _), (1, _), (2, _), (3, _)] rfl (fun w => by simp [Instr.build, go_sem] <;> repeat' constructor)) ?_
              first
              | refine vc_e (e_sts (vs := [_, _, _, _]) st 0 rfl rfl rfl rfl rfl Try.sizeOf33 rfl rfl (by first | (right; assumption) | (left; simp)) ?_)
              | refine vc_e (e_sts (vs := [_, _, _, _]) st 1 rfl rfl rfl rfl rfl Try.sizeOf33 rfl rfl (by first | (right; assumption) | (left; simp)) ?_)
              | refine vc_e (e_sts (vs := [_, _, _, _]) st 2 rfl rfl rfl rfl rfl Try.sizeOf33 rfl rfl (by first | (right; assumption) | (left; simp)) ?_)
              intro w st; dsimp only [setNth, wr] at st
              refine vc_y rfl rfl (y_as rfl) ?_
              refine vc_y rfl rfl (y_as rfl) ?_
              refine vc_end ?_
              refine vq_then ?_
              refine vc_keep [(4, _), (5, _), (6, _)] ⟨rfl, rfl, rfl, trivial⟩ ?_
              refine vc_ret ?_
              refine vq_block_ret ?_
              refine vq_then_ret ?_
              refine vq_ret3 st (.inl rfl) Try.results37 (by first | exact .cell 0 rfl rfl Try.isAgg33 Try.sizeOf33 | exact .cell 1 rfl rfl Try.isAgg33 Try.sizeOf33 | exact .cell 2 rfl rfl Try.isAgg33 Try.sizeOf33) (.tmp rfl) (.tmp rfl) ?_
              refine ⟨_, rfl, ?_⟩
              have hlen : (List.take (j - i) (List.drop i s)).length = j - i := by simp; omega
              refine ⟨?_, st.chg⟩
              rw [numR_tok hi (by assumption) (by assumption), hT, hlen, show i + (j - i) = j by omega]
              first
              | (rw [if_pos (by assumption)]; exact ⟨_, _, _, _, rfl⟩)
              | (rw [if_neg (by rw [hc79]; simp), if_pos ⟨by omega, by assumption⟩]; exact ⟨_, _, _, _, rfl⟩)
              | (rw [if_neg (by rw [hc79]; simp), if_neg (by rintro ⟨h1, h2⟩; first | omega | simp_all)]; rfl)
      · intro hg62
        try simp only [decide_eq_true_eq, decide_eq_false_iff_not, Bool.not_eq_true', Bool.not_eq_false', Bool.not_eq_true, Bool.not_eq_false, Int.not_lt, Int.not_le, Nat.not_lt, Nat.not_le, Bool.not_true, Bool.not_false, Bool.true_eq_false, Bool.false_eq_true] at hg62
        have hT := tw_end (fun h => absurd h (by omega)) he
        refine vc_e (e_skip rfl rfl ?_)
        refine vc_e (e_skip rfl rfl ?_)
        refine vc_e (e_skip rfl rfl ?_)
        refine vc_e (e_skip rfl rfl ?_)
        refine vc_y rfl rfl (y_pickf rfl rfl) ?_
        refine vc_end ?_
        refine vq_then ?_
        refine vc_keep [(0, _), (1, _), (4, _), (7, _), (67, _)] ⟨rfl, rfl, rfl, rfl, rfl, trivial⟩ ?_
        refine vc_iff rfl ?_
        refine vc_exit ?_
        refine vq_then_exit ?_
        refine vq_then_exit ?_
        refine vq_block_exit ?_
        refine vq_then ?_
        refine vc_keep [(0, _), (1, _), (4, _), (7, _)] ⟨rfl, rfl, rfl, rfl, trivial⟩ ?_
        refine vc_seq ?_
        refine vc_region ?_
        refine vc_y rfl rfl (y_mv rfl) ?_
        refine vc_y rfl rfl (y_mv rfl) ?_
        refine vc_y rfl rfl (y_mv rfl) ?_
        refine vc_y rfl rfl (y_sls (i := i) (j := j) rfl rfl rfl Try.underlying9 rfl rfl (by omega) (by omega)) ?_
        refine vc_e (e_call [_] rfl rfl Try.call49 rfl (rnumber_any _ _ (by simp; omega)) ?_)
        rintro _ w ⟨rfl, rfl⟩
        refine vc_y rfl rfl (y_mv rfl) ?_
        refine vc_y rfl rfl (y_ext rfl rfl) ?_
        refine vc_y rfl rfl (y_ext rfl rfl) ?_
        refine vc_y rfl rfl (y_as rfl) ?_
        refine vc_y rfl rfl (y_as rfl) ?_
        refine vc_end ?_
        refine vq_then ?_
        refine vc_keep [(0, _), (1, _), (4, _), (7, _), (9, _), (10, _)] ⟨rfl, rfl, rfl, rfl, rfl, rfl, trivial⟩ ?_
        refine vc_seq ?_
        refine vc_seq ?_
        refine vc_region ?_
        refine vc_y rfl rfl (y_mv rfl) ?_
        refine vc_y rfl rfl (y_not rfl) ?_
        refine vc_end ?_
        refine vq_then ?_
        refine vc_keep [(0, _), (1, _), (4, _), (7, _), (9, _), (79, _)] ⟨rfl, rfl, rfl, rfl, rfl, rfl, trivial⟩ ?_
        refine vc_ifs rfl ?_ ?_
        · intro hc79
          try simp only [decide_eq_true_eq, decide_eq_false_iff_not, Bool.not_eq_true', Bool.not_eq_false', Bool.not_eq_true, Bool.not_eq_false, Int.not_lt, Int.not_le, Nat.not_lt, Nat.not_le, Bool.not_true, Bool.not_false, Bool.true_eq_false, Bool.false_eq_true] at hc79
          refine vc_seq ?_
          refine vc_region ?_
          refine vc_y rfl rfl (y_bld (.agg #[_, _, _, _]) [] rfl (fun w => by simp [Instr.build, go_sem] <;> repeat' constructor)) ?_
          refine vc_y rfl rfl (y_mv rfl) ?_
          first
          | refine vc_e (e_sts (vs := [_, _, _, _]) st 0 rfl rfl rfl rfl rfl Try.sizeOf33 rfl rfl (by first | (right; assumption) | (left; simp)) ?_)
          | refine vc_e (e_sts (vs := [_, _, _, _]) st 1 rfl rfl rfl rfl rfl Try.sizeOf33 rfl rfl (by first | (right; assumption) | (left; simp)) ?_)
          | refine vc_e (e_sts (vs := [_, _, _, _]) st 2 rfl rfl rfl rfl rfl Try.sizeOf33 rfl rfl (by first | (right; assumption) | (left; simp)) ?_)
          intro w st; dsimp only [setNth, wr] at st
          refine vc_y rfl rfl (y_as rfl) ?_
          refine vc_y rfl rfl (y_as rfl) ?_
          refine vc_end ?_
          refine vq_then ?_
          refine vc_keep [(4, _), (5, _), (6, _)] ⟨rfl, rfl, rfl, trivial⟩ ?_
          refine vc_ret ?_
          refine vq_then_ret ?_
          refine vq_block_ret ?_
          refine vq_then_ret ?_
          refine vq_ret3 st (.inl rfl) Try.results37 (by first | exact .cell 0 rfl rfl Try.isAgg33 Try.sizeOf33 | exact .cell 1 rfl rfl Try.isAgg33 Try.sizeOf33 | exact .cell 2 rfl rfl Try.isAgg33 Try.sizeOf33) (.tmp rfl) (.tmp rfl) ?_
          refine ⟨_, rfl, ?_⟩
          have hlen : (List.take (j - i) (List.drop i s)).length = j - i := by simp; omega
          refine ⟨?_, st.chg⟩
          rw [numR_tok hi (by assumption) (by assumption), hT, hlen, show i + (j - i) = j by omega]
          first
          | (rw [if_pos (by assumption)]; exact ⟨_, _, _, _, rfl⟩)
          | (rw [if_neg (by rw [hc79]; simp), if_pos ⟨by omega, by assumption⟩]; exact ⟨_, _, _, _, rfl⟩)
          | (rw [if_neg (by rw [hc79]; simp), if_neg (by rintro ⟨h1, h2⟩; first | omega | simp_all)]; rfl)
        · intro hc79
          try simp only [decide_eq_true_eq, decide_eq_false_iff_not, Bool.not_eq_true', Bool.not_eq_false', Bool.not_eq_true, Bool.not_eq_false, Int.not_lt, Int.not_le, Nat.not_lt, Nat.not_le, Bool.not_true, Bool.not_false, Bool.true_eq_false, Bool.false_eq_true] at hc79
          refine vc_code_skip ?_
          refine vq_then ?_
          refine vc_keep [(0, _), (1, _), (4, _), (7, _), (9, _)] ⟨rfl, rfl, rfl, rfl, rfl, trivial⟩ ?_
          refine vc_seq ?_
          refine vc_seq ?_
          refine vc_region ?_
          refine vc_y rfl rfl (y_mv rfl) ?_
          refine vc_y rfl rfl (y_mv rfl) ?_
          refine vc_y rfl rfl (y_lens rfl Try.underlying9) ?_
          refine vc_y rfl rfl (y_lss rfl rfl) ?_
          refine vc_e (e_mvb rfl rfl rfl ?_ ?_)
          · intro hg86
            try simp only [decide_eq_true_eq, decide_eq_false_iff_not, Bool.not_eq_true', Bool.not_eq_false', Bool.not_eq_true, Bool.not_eq_false, Int.not_lt, Int.not_le, Nat.not_lt, Nat.not_le, Bool.not_true, Bool.not_false, Bool.true_eq_false, Bool.false_eq_true] at hg86
            refine vc_y rfl rfl (y_mv rfl) ?_
            refine vc_y rfl rfl (y_mv rfl) ?_
            refine vc_y rfl rfl (y_ixs (k := j) rfl rfl Try.underlying9 rfl (by omega)) ?_
            refine vc_e (e_call [_] rfl rfl Try.call33 rfl (rletter_any _ _) ?_)
            rintro _ w ⟨rfl, rfl⟩
            refine vc_y rfl rfl (y_pickt rfl rfl) ?_
            refine vc_end ?_
            refine vq_then ?_
            refine vc_keep [(0, _), (1, _), (4, _), (7, _), (9, _), (91, _)] ⟨rfl, rfl, rfl, rfl, rfl, rfl, trivial⟩ ?_
            refine vc_ifs rfl ?_ ?_
            · intro hc91
              try simp only [decide_eq_true_eq, decide_eq_false_iff_not, Bool.not_eq_true', Bool.not_eq_false', Bool.not_eq_true, Bool.not_eq_false, Int.not_lt, Int.not_le, Nat.not_lt, Nat.not_le, Bool.not_true, Bool.not_false, Bool.true_eq_false, Bool.false_eq_true] at hc91
              refine vc_seq ?_
              refine vc_region ?_
              refine vc_y rfl rfl (y_bld (.agg #[_, _, _, _]) [] rfl (fun w => by simp [Instr.build, go_sem] <;> repeat' constructor)) ?_
              refine vc_y rfl rfl (y_mv rfl) ?_
              first
              | refine vc_e (e_sts (vs := [_, _, _, _]) st 0 rfl rfl rfl rfl rfl Try.sizeOf33 rfl rfl (by first | (right; assumption) | (left; simp)) ?_)
              | refine vc_e (e_sts (vs := [_, _, _, _]) st 1 rfl rfl rfl rfl rfl Try.sizeOf33 rfl rfl (by first | (right; assumption) | (left; simp)) ?_)
              | refine vc_e (e_sts (vs := [_, _, _, _]) st 2 rfl rfl rfl rfl rfl Try.sizeOf33 rfl rfl (by first | (right; assumption) | (left; simp)) ?_)
              intro w st; dsimp only [setNth, wr] at st
              refine vc_y rfl rfl (y_as rfl) ?_
              refine vc_y rfl rfl (y_as rfl) ?_
              refine vc_end ?_
              refine vq_then ?_
              refine vc_keep [(4, _), (5, _), (6, _)] ⟨rfl, rfl, rfl, trivial⟩ ?_
              refine vc_ret ?_
              refine vq_then_ret ?_
              refine vq_block_ret ?_
              refine vq_then_ret ?_
              refine vq_ret3 st (.inl rfl) Try.results37 (by first | exact .cell 0 rfl rfl Try.isAgg33 Try.sizeOf33 | exact .cell 1 rfl rfl Try.isAgg33 Try.sizeOf33 | exact .cell 2 rfl rfl Try.isAgg33 Try.sizeOf33) (.tmp rfl) (.tmp rfl) ?_
              refine ⟨_, rfl, ?_⟩
              have hlen : (List.take (j - i) (List.drop i s)).length = j - i := by simp; omega
              refine ⟨?_, st.chg⟩
              rw [numR_tok hi (by assumption) (by assumption), hT, hlen, show i + (j - i) = j by omega]
              first
              | (rw [if_pos (by assumption)]; exact ⟨_, _, _, _, rfl⟩)
              | (rw [if_neg (by rw [hc79]; simp), if_pos ⟨by omega, by assumption⟩]; exact ⟨_, _, _, _, rfl⟩)
              | (rw [if_neg (by rw [hc79]; simp), if_neg (by rintro ⟨h1, h2⟩; first | omega | simp_all)]; rfl)
            · intro hc91
              try simp only [decide_eq_true_eq, decide_eq_false_iff_not, Bool.not_eq_true', Bool.not_eq_false', Bool.not_eq_true, Bool.not_eq_false, Int.not_lt, Int.not_le, Nat.not_lt, Nat.not_le, Bool.not_true, Bool.not_false, Bool.true_eq_false, Bool.false_eq_true] at hc91
              refine vc_code_skip ?_
              refine vq_then ?_
              refine vc_keep [(0, _), (1, _), (4, _), (7, _), (9, _)] ⟨rfl, rfl, rfl, rfl, rfl, trivial⟩ ?_
              refine vc_seq ?_
              refine vc_region ?_
              refine vc_y rfl rfl (y_mv rfl) ?_
              refine vc_y rfl rfl (y_mv rfl) ?_
              refine vc_y rfl rfl (y_mv rfl) ?_
              refine vc_y rfl rfl (y_sls (i := i) (j := j) rfl rfl rfl Try.underlying9 rfl rfl (by omega) (by omega)) ?_
              refine vc_y rfl rfl (y_mv rfl) ?_
              refine vc_y rfl rfl (y_mv rfl) ?_
              refine vc_y rfl rfl (y_bld (.agg #[_, _, _, _]) [(0, _), (1, _), (2, _), (3, _)] rfl (fun w => by simp [Instr.build, go_sem] <;> repeat' constructor)) ?_
              first
              | refine vc_e (e_sts (vs := [_, _, _, _]) st 0 rfl rfl rfl rfl rfl Try.sizeOf33 rfl rfl (by first | (right; assumption) | (left; simp)) ?_)
              | refine vc_e (e_sts (vs := [_, _, _, _]) st 1 rfl rfl rfl rfl rfl Try.sizeOf33 rfl rfl (by first | (right; assumption) | (left; simp)) ?_)
              | refine vc_e (e_sts (vs := [_, _, _, _]) st 2 rfl rfl rfl rfl rfl Try.sizeOf33 rfl rfl (by first | (right; assumption) | (left; simp)) ?_)
              intro w st; dsimp only [setNth, wr] at st
              refine vc_y rfl rfl (y_as rfl) ?_
              refine vc_y rfl rfl (y_as rfl) ?_
              refine vc_end ?_
              refine vq_then ?_
              refine vc_keep [(4, _), (5, _), (6, _)] ⟨rfl, rfl, rfl, trivial⟩ ?_
              refine vc_ret ?_
              refine vq_block_ret ?_
              refine vq_then_ret ?_
              refine vq_ret3 st (.inl rfl) Try.results37 (by first | exact .cell 0 rfl rfl Try.isAgg33 Try.sizeOf33 | exact .cell 1 rfl rfl Try.isAgg33 Try.sizeOf33 | exact .cell 2 rfl rfl Try.isAgg33 Try.sizeOf33) (.tmp rfl) (.tmp rfl) ?_
              refine ⟨_, rfl, ?_⟩
              have hlen : (List.take (j - i) (List.drop i s)).length = j - i := by simp; omega
              refine ⟨?_, st.chg⟩
              rw [numR_tok hi (by assumption) (by assumption), hT, hlen, show i + (j - i) = j by omega]
              first
              | (rw [if_pos (by assumption)]; exact ⟨_, _, _, _, rfl⟩)
              | (rw [if_neg (by rw [hc79]; simp), if_pos ⟨by omega, by assumption⟩]; exact ⟨_, _, _, _, rfl⟩)
              | (rw [if_neg (by rw [hc79]; simp), if_neg (by rintro ⟨h1, h2⟩; first | omega | simp_all)]; rfl)
          · intro hg86
            try simp only [decide_eq_true_eq, decide_eq_false_iff_not, Bool.not_eq_true', Bool.not_eq_false', Bool.not_eq_true, Bool.not_eq_false, Int.not_lt, Int.not_le, Nat.not_lt, Nat.not_le, Bool.not_true, Bool.not_false, Bool.true_eq_false, Bool.false_eq_true] at hg86
            refine vc_e (e_skip rfl rfl ?_)
            refine vc_e (e_skip rfl rfl ?_)
            refine vc_e (e_skip rfl rfl ?_)
            refine vc_e (e_skip rfl rfl ?_)
            refine vc_y rfl rfl (y_pickf rfl rfl) ?_
            refine vc_end ?_
            refine vq_then ?_
            refine vc_keep [(0, _), (1, _), (4, _), (7, _), (9, _), (91, _)] ⟨rfl, rfl, rfl, rfl, rfl, rfl, trivial⟩ ?_
            refine vc_iff rfl ?_
            refine vc_code_skip ?_
            refine vq_then ?_
            refine vc_keep [(0, _), (1, _), (4, _), (7, _), (9, _)] ⟨rfl, rfl, rfl, rfl, rfl, trivial⟩ ?_
            refine vc_seq ?_
            refine vc_region ?_
            refine vc_y rfl rfl (y_mv rfl) ?_
            refine vc_y rfl rfl (y_mv rfl) ?_
            refine vc_y rfl rfl (y_mv rfl) ?_
            refine vc_y rfl rfl (y_sls (i := i) (j := j) rfl rfl rfl Try.underlying9 rfl rfl (by omega) (by omega)) ?_
            refine vc_y rfl rfl (y_mv rfl) ?_
            refine vc_y rfl rfl (y_mv rfl) ?_
            refine vc_y rfl rfl (y_bld (.agg #[_, _, _, _]) [(0, _), (1, _), (2, _), (3, _)] rfl (fun w => by simp [Instr.build, go_sem] <;> repeat' constructor)) ?_
            first
            | refine vc_e (e_sts (vs := [_, _, _, _]) st 0 rfl rfl rfl rfl rfl Try.sizeOf33 rfl rfl (by first | (right; assumption) | (left; simp)) ?_)
            | refine vc_e (e_sts (vs := [_, _, _, _]) st 1 rfl rfl rfl rfl rfl Try.sizeOf33 rfl rfl (by first | (right; assumption) | (left; simp)) ?_)
            | refine vc_e (e_sts (vs := [_, _, _, _]) st 2 rfl rfl rfl rfl rfl Try.sizeOf33 rfl rfl (by first | (right; assumption) | (left; simp)) ?_)
            intro w st; dsimp only [setNth, wr] at st
            refine vc_y rfl rfl (y_as rfl) ?_
            refine vc_y rfl rfl (y_as rfl) ?_
            refine vc_end ?_
            refine vq_then ?_
            refine vc_keep [(4, _), (5, _), (6, _)] ⟨rfl, rfl, rfl, trivial⟩ ?_
            refine vc_ret ?_
            refine vq_block_ret ?_
            refine vq_then_ret ?_
            refine vq_ret3 st (.inl rfl) Try.results37 (by first | exact .cell 0 rfl rfl Try.isAgg33 Try.sizeOf33 | exact .cell 1 rfl rfl Try.isAgg33 Try.sizeOf33 | exact .cell 2 rfl rfl Try.isAgg33 Try.sizeOf33) (.tmp rfl) (.tmp rfl) ?_
            refine ⟨_, rfl, ?_⟩
            have hlen : (List.take (j - i) (List.drop i s)).length = j - i := by simp; omega
            refine ⟨?_, st.chg⟩
            rw [numR_tok hi (by assumption) (by assumption), hT, hlen, show i + (j - i) = j by omega]
            first
            | (rw [if_pos (by assumption)]; exact ⟨_, _, _, _, rfl⟩)
            | (rw [if_neg (by rw [hc79]; simp), if_pos ⟨by omega, by assumption⟩]; exact ⟨_, _, _, _, rfl⟩)
            | (rw [if_neg (by rw [hc79]; simp), if_neg (by rintro ⟨h1, h2⟩; first | omega | simp_all)]; rfl)
    · intro hc53
      try simp only [decide_eq_true_eq, decide_eq_false_iff_not, Bool.not_eq_true', Bool.not_eq_false', Bool.not_eq_true, Bool.not_eq_false, Int.not_lt, Int.not_le, Nat.not_lt, Nat.not_le, Bool.not_true, Bool.not_false, Bool.true_eq_false, Bool.false_eq_true] at hc53
      refine vc_seq ?_
      refine vc_region ?_
      refine vc_y rfl rfl (y_mv rfl) ?_
      refine vc_y rfl rfl (y_add rfl rfl (by omega : _ = ((i + 2 : Nat) : Int)) (by omega) (by omega)) ?_
      refine vc_y rfl rfl (y_mv rfl) ?_
      refine vc_y rfl rfl (y_lens rfl Try.underlying9) ?_
      refine vc_y rfl rfl (y_leq rfl rfl) ?_
      refine vc_e (e_mvb rfl rfl rfl ?_ ?_)
      · intro hg107
        try simp only [decide_eq_true_eq, decide_eq_false_iff_not, Bool.not_eq_true', Bool.not_eq_false', Bool.not_eq_true, Bool.not_eq_false, Int.not_lt, Int.not_le, Nat.not_lt, Nat.not_le, Bool.not_true, Bool.not_false, Bool.true_eq_false, Bool.false_eq_true] at hg107
        refine vc_y rfl rfl (y_mv rfl) ?_
        refine vc_y rfl rfl (y_mv rfl) ?_
        refine vc_y rfl rfl (y_mv rfl) ?_
        refine vc_y rfl rfl (y_add rfl rfl (by omega : _ = ((i + 2 : Nat) : Int)) (by omega) (by omega)) ?_
        refine vc_y rfl rfl (y_sls (i := i) (j := (i + 2)) rfl rfl rfl Try.underlying9 rfl rfl (by omega) (by omega)) ?_
        refine vc_e (e_call [_] rfl rfl Try.call19 rfl (rsign_any _ _) ?_)
        rintro _ w ⟨rfl, rfl⟩
        refine vc_y rfl rfl (y_pickt rfl rfl) ?_
        refine vc_y rfl rfl (y_as rfl) ?_
        refine vc_end ?_
        refine vq_then ?_
        refine vc_keep [(0, _), (1, _), (4, _), (101, _)] ⟨rfl, rfl, rfl, rfl, trivial⟩ ?_
        refine vc_ifs rfl ?_ ?_
        · intro hc101
          try simp only [decide_eq_true_eq, decide_eq_false_iff_not, Bool.not_eq_true', Bool.not_eq_false', Bool.not_eq_true, Bool.not_eq_false, Int.not_lt, Int.not_le, Nat.not_lt, Nat.not_le, Bool.not_true, Bool.not_false, Bool.true_eq_false, Bool.false_eq_true] at hc101
          refine vc_seq ?_
          refine vc_region ?_
          refine vc_y rfl rfl (y_mv rfl) ?_
          refine vc_y rfl rfl (y_mv rfl) ?_
          refine vc_y rfl rfl (y_mv rfl) ?_
          refine vc_y rfl rfl (y_add rfl rfl (by omega : _ = ((i + 2 : Nat) : Int)) (by omega) (by omega)) ?_
          refine vc_y rfl rfl (y_sls (i := i) (j := (i + 2)) rfl rfl rfl Try.underlying9 rfl rfl (by omega) (by omega)) ?_
          refine vc_y rfl rfl (y_mv rfl) ?_
          refine vc_y rfl rfl (y_bld (.agg #[_, _, _, _]) [(0, _), (1, _), (3, _)] rfl (fun w => by simp [Instr.build, go_sem] <;> repeat' constructor)) ?_
          first
          | refine vc_e (e_sts (vs := [_, _, _, _]) st 0 rfl rfl rfl rfl rfl Try.sizeOf33 rfl rfl (by first | (right; assumption) | (left; simp)) ?_)
          | refine vc_e (e_sts (vs := [_, _, _, _]) st 1 rfl rfl rfl rfl rfl Try.sizeOf33 rfl rfl (by first | (right; assumption) | (left; simp)) ?_)
          | refine vc_e (e_sts (vs := [_, _, _, _]) st 2 rfl rfl rfl rfl rfl Try.sizeOf33 rfl rfl (by first | (right; assumption) | (left; simp)) ?_)
          intro w st; dsimp only [setNth, wr] at st
          refine vc_y rfl rfl (y_as rfl) ?_
          refine vc_y rfl rfl (y_as rfl) ?_
          refine vc_end ?_
          refine vq_then ?_
          refine vc_keep [(4, _), (5, _), (6, _)] ⟨rfl, rfl, rfl, trivial⟩ ?_
          refine vc_ret ?_
          refine vq_block_ret ?_
          refine vq_then_ret ?_
          refine vq_ret3 st (.inl rfl) Try.results37 (by first | exact .cell 0 rfl rfl Try.isAgg33 Try.sizeOf33 | exact .cell 1 rfl rfl Try.isAgg33 Try.sizeOf33 | exact .cell 2 rfl rfl Try.isAgg33 Try.sizeOf33) (.tmp rfl) (.tmp rfl) ?_
          refine ⟨_, rfl, ?_⟩
          refine ⟨?_, st.chg⟩
          rw [tokAt_sign hi (by assumption) (by assumption)]
          simp only [show i + 2 - i = 2 by omega, show i + 1 - i = 1 by omega] at *
          have h2l : (List.take 2 (List.drop i s)).length = min 2 (s.length - i) := by simp
          have h1l : (List.take 1 (List.drop i s)).length = 1 := by simp; omega
          have e1 : isSign (List.take 1 (List.drop i s)) = isSign1 (List.take 1 (List.drop i s)) := by
            unfold isSign
            cases h : isSign2 (List.take 1 (List.drop i s))
            · rfl
            · have := isSign2_len h; omega
          have e2 : isSign2 (List.take 2 (List.drop i s)) = if i + 2 ≤ s.length then isSign (List.take 2 (List.drop i s)) else false := by
            split
            · unfold isSign
              cases h : isSign1 (List.take 2 (List.drop i s))
              · simp
              · have := isSign1_len h; omega
            · cases h : isSign2 (List.take 2 (List.drop i s))
              · rfl
              · have := isSign2_len h; omega
          first
          | (rw [if_pos (by rw [e2, if_pos (by omega)]; assumption)]; rfl)
          | (rw [if_neg (by rw [e2, if_pos (by omega)]; simp only [*]; simp), if_pos (by rw [← e1]; assumption)]; rfl)
          | (rw [if_neg (by rw [e2, if_neg (by omega)]; simp), if_pos (by rw [← e1]; assumption)]; rfl)
          | (rw [if_neg (by rw [e2, if_pos (by omega)]; simp only [*]; simp), if_neg (by rw [← e1]; simp only [*]; simp)]; exact ⟨_, _, _, _, rfl⟩)
          | (rw [if_neg (by rw [e2, if_neg (by omega)]; simp), if_neg (by rw [← e1]; simp only [*]; simp)]; exact ⟨_, _, _, _, rfl⟩)
        · intro hc101
          try simp only [decide_eq_true_eq, decide_eq_false_iff_not, Bool.not_eq_true', Bool.not_eq_false', Bool.not_eq_true, Bool.not_eq_false, Int.not_lt, Int.not_le, Nat.not_lt, Nat.not_le, Bool.not_true, Bool.not_false, Bool.true_eq_false, Bool.false_eq_true] at hc101
          refine vc_seq ?_
          refine vc_region ?_
          refine vc_y rfl rfl (y_mv rfl) ?_
          refine vc_y rfl rfl (y_mv rfl) ?_
          refine vc_y rfl rfl (y_mv rfl) ?_
          refine vc_y rfl rfl (y_add rfl rfl (by omega : _ = ((i + 1 : Nat) : Int)) (by omega) (by omega)) ?_
          refine vc_y rfl rfl (y_sls (i := i) (j := (i + 1)) rfl rfl rfl Try.underlying9 rfl rfl (by omega) (by omega)) ?_
          refine vc_e (e_call [_] rfl rfl Try.call19 rfl (rsign_any _ _) ?_)
          rintro _ w ⟨rfl, rfl⟩
          refine vc_y rfl rfl (y_as rfl) ?_
          refine vc_end ?_
          refine vq_then ?_
          refine vc_keep [(0, _), (1, _), (4, _), (122, _)] ⟨rfl, rfl, rfl, rfl, trivial⟩ ?_
          refine vc_ifs rfl ?_ ?_
          · intro hc122
            try simp only [decide_eq_true_eq, decide_eq_false_iff_not, Bool.not_eq_true', Bool.not_eq_false', Bool.not_eq_true, Bool.not_eq_false, Int.not_lt, Int.not_le, Nat.not_lt, Nat.not_le, Bool.not_true, Bool.not_false, Bool.true_eq_false, Bool.false_eq_true] at hc122
            refine vc_seq ?_
            refine vc_region ?_
            refine vc_y rfl rfl (y_mv rfl) ?_
            refine vc_y rfl rfl (y_mv rfl) ?_
            refine vc_y rfl rfl (y_mv rfl) ?_
            refine vc_y rfl rfl (y_add rfl rfl (by omega : _ = ((i + 1 : Nat) : Int)) (by omega) (by omega)) ?_
            refine vc_y rfl rfl (y_sls (i := i) (j := (i + 1)) rfl rfl rfl Try.underlying9 rfl rfl (by omega) (by omega)) ?_
            refine vc_y rfl rfl (y_mv rfl) ?_
            refine vc_y rfl rfl (y_bld (.agg #[_, _, _, _]) [(0, _), (1, _), (3, _)] rfl (fun w => by simp [Instr.build, go_sem] <;> repeat' constructor)) ?_
            first
            | refine vc_e (e_sts (vs := [_, _, _, _]) st 0 rfl rfl rfl rfl rfl Try.sizeOf33 rfl rfl (by first | (right; assumption) | (left; simp)) ?_)
            | refine vc_e (e_sts (vs := [_, _, _, _]) st 1 rfl rfl rfl rfl rfl Try.sizeOf33 rfl rfl (by first | (right; assumption) | (left; simp)) ?_)
            | refine vc_e (e_sts (vs := [_, _, _, _]) st 2 rfl rfl rfl rfl rfl Try.sizeOf33 rfl rfl (by first | (right; assumption) | (left; simp)) ?_)
            intro w st; dsimp only [setNth, wr] at st
            refine vc_y rfl rfl (y_as rfl) ?_
            refine vc_y rfl rfl (y_as rfl) ?_
            refine vc_end ?_
            refine vq_then ?_
            refine vc_keep [(4, _), (5, _), (6, _)] ⟨rfl, rfl, rfl, trivial⟩ ?_
            refine vc_ret ?_
            refine vq_block_ret ?_
            refine vq_then_ret ?_
            refine vq_ret3 st (.inl rfl) Try.results37 (by first | exact .cell 0 rfl rfl Try.isAgg33 Try.sizeOf33 | exact .cell 1 rfl rfl Try.isAgg33 Try.sizeOf33 | exact .cell 2 rfl rfl Try.isAgg33 Try.sizeOf33) (.tmp rfl) (.tmp rfl) ?_
            refine ⟨_, rfl, ?_⟩
            refine ⟨?_, st.chg⟩
            rw [tokAt_sign hi (by assumption) (by assumption)]
            simp only [show i + 2 - i = 2 by omega, show i + 1 - i = 1 by omega] at *
            have h2l : (List.take 2 (List.drop i s)).length = min 2 (s.length - i) := by simp
            have h1l : (List.take 1 (List.drop i s)).length = 1 := by simp; omega
            have e1 : isSign (List.take 1 (List.drop i s)) = isSign1 (List.take 1 (List.drop i s)) := by
              unfold isSign
              cases h : isSign2 (List.take 1 (List.drop i s))
              · rfl
              · have := isSign2_len h; omega
            have e2 : isSign2 (List.take 2 (List.drop i s)) = if i + 2 ≤ s.length then isSign (List.take 2 (List.drop i s)) else false := by
              split
              · unfold isSign
                cases h : isSign1 (List.take 2 (List.drop i s))
                · simp
                · have := isSign1_len h; omega
              · cases h : isSign2 (List.take 2 (List.drop i s))
                · rfl
                · have := isSign2_len h; omega
            first
            | (rw [if_pos (by rw [e2, if_pos (by omega)]; assumption)]; rfl)
            | (rw [if_neg (by rw [e2, if_pos (by omega)]; simp only [*]; simp), if_pos (by rw [← e1]; assumption)]; rfl)
            | (rw [if_neg (by rw [e2, if_neg (by omega)]; simp), if_pos (by rw [← e1]; assumption)]; rfl)
            | (rw [if_neg (by rw [e2, if_pos (by omega)]; simp only [*]; simp), if_neg (by rw [← e1]; simp only [*]; simp)]; exact ⟨_, _, _, _, rfl⟩)
            | (rw [if_neg (by rw [e2, if_neg (by omega)]; simp), if_neg (by rw [← e1]; simp only [*]; simp)]; exact ⟨_, _, _, _, rfl⟩)
          · intro hc122
            try simp only [decide_eq_true_eq, decide_eq_false_iff_not, Bool.not_eq_true', Bool.not_eq_false', Bool.not_eq_true, Bool.not_eq_false, Int.not_lt, Int.not_le, Nat.not_lt, Nat.not_le, Bool.not_true, Bool.not_false, Bool.true_eq_false, Bool.false_eq_true] at hc122
            refine vc_code_skip ?_
            refine vq_block ?_
            refine vq_then ?_
            refine vc_keep [(1, _), (4, _)] ⟨rfl, rfl, trivial⟩ ?_
            refine vc_seq ?_
            refine vc_region ?_
            refine vc_y rfl rfl (y_bld (.agg #[_, _, _, _]) [] rfl (fun w => by simp [Instr.build, go_sem] <;> repeat' constructor)) ?_
            refine vc_y rfl rfl (y_mv rfl) ?_
            first
            | refine vc_e (e_sts (vs := [_, _, _, _]) st 0 rfl rfl rfl rfl rfl Try.sizeOf33 rfl rfl (by first | (right; assumption) | (left; simp)) ?_)
            | refine vc_e (e_sts (vs := [_, _, _, _]) st 1 rfl rfl rfl rfl rfl Try.sizeOf33 rfl rfl (by first | (right; assumption) | (left; simp)) ?_)
            | refine vc_e (e_sts (vs := [_, _, _, _]) st 2 rfl rfl rfl rfl rfl Try.sizeOf33 rfl rfl (by first | (right; assumption) | (left; simp)) ?_)
            intro w st; dsimp only [setNth, wr] at st
            refine vc_y rfl rfl (y_as rfl) ?_
            refine vc_y rfl rfl (y_as rfl) ?_
            refine vc_end ?_
            refine vq_then ?_
            refine vc_keep [(4, _), (5, _), (6, _)] ⟨rfl, rfl, rfl, trivial⟩ ?_
            refine vc_ret ?_
            refine vq_ret3 st (.inl rfl) Try.results37 (by first | exact .cell 0 rfl rfl Try.isAgg33 Try.sizeOf33 | exact .cell 1 rfl rfl Try.isAgg33 Try.sizeOf33 | exact .cell 2 rfl rfl Try.isAgg33 Try.sizeOf33) (.tmp rfl) (.tmp rfl) ?_
            refine ⟨_, rfl, ?_⟩
            refine ⟨?_, st.chg⟩
            rw [tokAt_sign hi (by assumption) (by assumption)]
            simp only [show i + 2 - i = 2 by omega, show i + 1 - i = 1 by omega] at *
            have h2l : (List.take 2 (List.drop i s)).length = min 2 (s.length - i) := by simp
            have h1l : (List.take 1 (List.drop i s)).length = 1 := by simp; omega
            have e1 : isSign (List.take 1 (List.drop i s)) = isSign1 (List.take 1 (List.drop i s)) := by
              unfold isSign
              cases h : isSign2 (List.take 1 (List.drop i s))
              · rfl
              · have := isSign2_len h; omega
            have e2 : isSign2 (List.take 2 (List.drop i s)) = if i + 2 ≤ s.length then isSign (List.take 2 (List.drop i s)) else false := by
              split
              · unfold isSign
                cases h : isSign1 (List.take 2 (List.drop i s))
                · simp
                · have := isSign1_len h; omega
              · cases h : isSign2 (List.take 2 (List.drop i s))
                · rfl
                · have := isSign2_len h; omega
            first
            | (rw [if_pos (by rw [e2, if_pos (by omega)]; assumption)]; rfl)
            | (rw [if_neg (by rw [e2, if_pos (by omega)]; simp only [*]; simp), if_pos (by rw [← e1]; assumption)]; rfl)
            | (rw [if_neg (by rw [e2, if_neg (by omega)]; simp), if_pos (by rw [← e1]; assumption)]; rfl)
            | (rw [if_neg (by rw [e2, if_pos (by omega)]; simp only [*]; simp), if_neg (by rw [← e1]; simp only [*]; simp)]; exact ⟨_, _, _, _, rfl⟩)
            | (rw [if_neg (by rw [e2, if_neg (by omega)]; simp), if_neg (by rw [← e1]; simp only [*]; simp)]; exact ⟨_, _, _, _, rfl⟩)
      · intro hg107
        try simp only [decide_eq_true_eq, decide_eq_false_iff_not, Bool.not_eq_true', Bool.not_eq_false', Bool.not_eq_true, Bool.not_eq_false, Int.not_lt, Int.not_le, Nat.not_lt, Nat.not_le, Bool.not_true, Bool.not_false, Bool.true_eq_false, Bool.false_eq_true] at hg107
        refine vc_e (e_skip rfl rfl ?_)
        refine vc_e (e_skip rfl rfl ?_)
        refine vc_e (e_skip rfl rfl ?_)
        refine vc_e (e_skip rfl rfl ?_)
        refine vc_e (e_skip rfl rfl ?_)
        refine vc_e (e_skip rfl rfl ?_)
        refine vc_y rfl rfl (y_pickf rfl rfl) ?_
        refine vc_y rfl rfl (y_as rfl) ?_
        refine vc_end ?_
        refine vq_then ?_
        refine vc_keep [(0, _), (1, _), (4, _), (101, _)] ⟨rfl, rfl, rfl, rfl, trivial⟩ ?_
        refine vc_iff rfl ?_
        refine vc_seq ?_
        refine vc_region ?_
        refine vc_y rfl rfl (y_mv rfl) ?_
        refine vc_y rfl rfl (y_mv rfl) ?_
        refine vc_y rfl rfl (y_mv rfl) ?_
        refine vc_y rfl rfl (y_add rfl rfl (by omega : _ = ((i + 1 : Nat) : Int)) (by omega) (by omega)) ?_
        refine vc_y rfl rfl (y_sls (i := i) (j := (i + 1)) rfl rfl rfl Try.underlying9 rfl rfl (by omega) (by omega)) ?_
        refine vc_e (e_call [_] rfl rfl Try.call19 rfl (rsign_any _ _) ?_)
        rintro _ w ⟨rfl, rfl⟩
        refine vc_y rfl rfl (y_as rfl) ?_
        refine vc_end ?_
        refine vq_then ?_
        refine vc_keep [(0, _), (1, _), (4, _), (122, _)] ⟨rfl, rfl, rfl, rfl, trivial⟩ ?_
        refine vc_ifs rfl ?_ ?_
        · intro hc122
          try simp only [decide_eq_true_eq, decide_eq_false_iff_not, Bool.not_eq_true', Bool.not_eq_false', Bool.not_eq_true, Bool.not_eq_false, Int.not_lt, Int.not_le, Nat.not_lt, Nat.not_le, Bool.not_true, Bool.not_false, Bool.true_eq_false, Bool.false_eq_true] at hc122
          refine vc_seq ?_
          refine vc_region ?_
          refine vc_y rfl rfl (y_mv rfl) ?_
          refine vc_y rfl rfl (y_mv rfl) ?_
          refine vc_y rfl rfl (y_mv rfl) ?_
          refine vc_y rfl rfl (y_add rfl rfl (by omega : _ = ((i + 1 : Nat) : Int)) (by omega) (by omega)) ?_
          refine vc_y rfl rfl (y_sls (i := i) (j := (i + 1)) rfl rfl rfl Try.underlying9 rfl rfl (by omega) (by omega)) ?_
          refine vc_y rfl rfl (y_mv rfl) ?_
          refine vc_y rfl rfl (y_bld (.agg #[_, _, _, _]) [(0, _), (1, _), (3, _)] rfl (fun w => by simp [Instr.build, go_sem] <;> repeat' constructor)) ?_
          first
          | refine vc_e (e_sts (vs := [_, _, _, _]) st 0 rfl rfl rfl rfl rfl Try.sizeOf33 rfl rfl (by first | (right; assumption) | (left; simp)) ?_)
          | refine vc_e (e_sts (vs := [_, _, _, _]) st 1 rfl rfl rfl rfl rfl Try.sizeOf33 rfl rfl (by first | (right; assumption) | (left; simp)) ?_)
          | refine vc_e (e_sts (vs := [_, _, _, _]) st 2 rfl rfl rfl rfl rfl Try.sizeOf33 rfl rfl (by first | (right; assumption) | (left; simp)) ?_)
          intro w st; dsimp only [setNth, wr] at st
          refine vc_y rfl rfl (y_as rfl) ?_
          refine vc_y rfl rfl (y_as rfl) ?_
          refine vc_end ?_
          refine vq_then ?_
          refine vc_keep [(4, _), (5, _), (6, _)] ⟨rfl, rfl, rfl, trivial⟩ ?_
          refine vc_ret ?_
          refine vq_block_ret ?_
          refine vq_then_ret ?_
          refine vq_ret3 st (.inl rfl) Try.results37 (by first | exact .cell 0 rfl rfl Try.isAgg33 Try.sizeOf33 | exact .cell 1 rfl rfl Try.isAgg33 Try.sizeOf33 | exact .cell 2 rfl rfl Try.isAgg33 Try.sizeOf33) (.tmp rfl) (.tmp rfl) ?_
          refine ⟨_, rfl, ?_⟩
          refine ⟨?_, st.chg⟩
          rw [tokAt_sign hi (by assumption) (by assumption)]
          simp only [show i + 2 - i = 2 by omega, show i + 1 - i = 1 by omega] at *
          have h2l : (List.take 2 (List.drop i s)).length = min 2 (s.length - i) := by simp
          have h1l : (List.take 1 (List.drop i s)).length = 1 := by simp; omega
          have e1 : isSign (List.take 1 (List.drop i s)) = isSign1 (List.take 1 (List.drop i s)) := by
            unfold isSign
            cases h : isSign2 (List.take 1 (List.drop i s))
            · rfl
            · have := isSign2_len h; omega
          have e2 : isSign2 (List.take 2 (List.drop i s)) = if i + 2 ≤ s.length then isSign (List.take 2 (List.drop i s)) else false := by
            split
            · unfold isSign
              cases h : isSign1 (List.take 2 (List.drop i s))
              · simp
              · have := isSign1_len h; omega
            · cases h : isSign2 (List.take 2 (List.drop i s))
              · rfl
              · have := isSign2_len h; omega
          first
          | (rw [if_pos (by rw [e2, if_pos (by omega)]; assumption)]; rfl)
          | (rw [if_neg (by rw [e2, if_pos (by omega)]; simp only [*]; simp), if_pos (by rw [← e1]; assumption)]; rfl)
          | (rw [if_neg (by rw [e2, if_neg (by omega)]; simp), if_pos (by rw [← e1]; assumption)]; rfl)
          | (rw [if_neg (by rw [e2, if_pos (by omega)]; simp only [*]; simp), if_neg (by rw [← e1]; simp only [*]; simp)]; exact ⟨_, _, _, _, rfl⟩)
          | (rw [if_neg (by rw [e2, if_neg (by omega)]; simp), if_neg (by rw [← e1]; simp only [*]; simp)]; exact ⟨_, _, _, _, rfl⟩)
        · intro hc122
          try simp only [decide_eq_true_eq, decide_eq_false_iff_not, Bool.not_eq_true', Bool.not_eq_false', Bool.not_eq_true, Bool.not_eq_false, Int.not_lt, Int.not_le, Nat.not_lt, Nat.not_le, Bool.not_true, Bool.not_false, Bool.true_eq_false, Bool.false_eq_true] at hc122
          refine vc_code_skip ?_
          refine vq_block ?_
          refine vq_then ?_
          refine vc_keep [(1, _), (4, _)] ⟨rfl, rfl, trivial⟩ ?_
          refine vc_seq ?_
          refine vc_region ?_
          refine vc_y rfl rfl (y_bld (.agg #[_, _, _, _]) [] rfl (fun w => by simp [Instr.build, go_sem] <;> repeat' constructor)) ?_
          refine vc_y rfl rfl (y_mv rfl) ?_
          first
          | refine vc_e (e_sts (vs := [_, _, _, _]) st 0 rfl rfl rfl rfl rfl Try.sizeOf33 rfl rfl (by first | (right; assumption) | (left; simp)) ?_)
          | refine vc_e (e_sts (vs := [_, _, _, _]) st 1 rfl rfl rfl rfl rfl Try.sizeOf33 rfl rfl (by first | (right; assumption) | (left; simp)) ?_)
          | refine vc_e (e_sts (vs := [_, _, _, _]) st 2 rfl rfl rfl rfl rfl Try.sizeOf33 rfl rfl (by first | (right; assumption) | (left; simp)) ?_)
          intro w st; dsimp only [setNth, wr] at st
          refine vc_y rfl rfl (y_as rfl) ?_
          refine vc_y rfl rfl (y_as rfl) ?_
          refine vc_end ?_
          refine vq_then ?_
          refine vc_keep [(4, _), (5, _), (6, _)] ⟨rfl, rfl, rfl, trivial⟩ ?_
          refine vc_ret ?_
          refine vq_ret3 st (.inl rfl) Try.results37 (by first | exact .cell 0 rfl rfl Try.isAgg33 Try.sizeOf33 | exact .cell 1 rfl rfl Try.isAgg33 Try.sizeOf33 | exact .cell 2 rfl rfl Try.isAgg33 Try.sizeOf33) (.tmp rfl) (.tmp rfl) ?_
          refine ⟨_, rfl, ?_⟩
          refine ⟨?_, st.chg⟩
          rw [tokAt_sign hi (by assumption) (by assumption)]
          simp only [show i + 2 - i = 2 by omega, show i + 1 - i = 1 by omega] at *
          have h2l : (List.take 2 (List.drop i s)).length = min 2 (s.length - i) := by simp
          have h1l : (List.take 1 (List.drop i s)).length = 1 := by simp; omega
          have e1 : isSign (List.take 1 (List.drop i s)) = isSign1 (List.take 1 (List.drop i s)) := by
            unfold isSign
            cases h : isSign2 (List.take 1 (List.drop i s))
            · rfl
            · have := isSign2_len h; omega
          have e2 : isSign2 (List.take 2 (List.drop i s)) = if i + 2 ≤ s.length then isSign (List.take 2 (List.drop i s)) else false := by
            split
            · unfold isSign
              cases h : isSign1 (List.take 2 (List.drop i s))
              · simp
              · have := isSign1_len h; omega
            · cases h : isSign2 (List.take 2 (List.drop i s))
              · rfl
              · have := isSign2_len h; omega
          first
          | (rw [if_pos (by rw [e2, if_pos (by omega)]; assumption)]; rfl)
          | (rw [if_neg (by rw [e2, if_pos (by omega)]; simp only [*]; simp), if_pos (by rw [← e1]; assumption)]; rfl)
          | (rw [if_neg (by rw [e2, if_neg (by omega)]; simp), if_pos (by rw [← e1]; assumption)]; rfl)
          | (rw [if_neg (by rw [e2, if_pos (by omega)]; simp only [*]; simp), if_neg (by rw [← e1]; simp only [*]; simp)]; exact ⟨_, _, _, _, rfl⟩)
          | (rw [if_neg (by rw [e2, if_neg (by omega)]; simp), if_neg (by rw [← e1]; simp only [*]; simp)]; exact ⟨_, _, _, _, rfl⟩)

end Go.Proofs.Ytakepmhgmgpkkaa
