/- A part of the proof: contracts of functions and plain laws; each theorem says its own conditions. -/
import Derived.WalkKit
import Derived.ProofKit
import Derived.OpenShut
import Derived.ShutString
import Derived.ChangeOld
import Derived.Below
import Derived.Test.YtggnfanphcaamaaDoorK
namespace Go.Proofs.YtggnfanphcaamaaDoor
open Go.RowKit Sx LexS
set_option linter.unusedVariables false
set_option linter.unusedSimpArgs false
/-- what 'one' hands back -/
def OnePost (res : TokR) (v : Value) : Prop := match res with
  | .tok t => v = .tuple [.agg (tokL t).toArray, .int .i64 0, .int .i64 0].toArray
  | .bad rule p => ∃ k t wd a, v = .tuple [.agg (tok4 k t wd a).toArray, .int .i64 (rule : Int), .int .i64 (p : Int)].toArray
theorem isWord_len {l : List UInt8} (h : isWord l = true) : l.length ≤ 32 := by
  simp only [isWord, decide_eq_true_eq] at h
  rcases h with h | h | h | h | h | h | h | h | h | h <;> rw [h] <;> decide
theorem numR_digits {T : List UInt8} (hne : T ≠ []) (hall : T.all isDigit = true) : numR T = if (1 < T.length ∧ T.getD 0 0 = 48) ∨ 9223372036854775807 < numVal T then (0, false) else (numVal T, true) := by
  unfold numR
  simp only [hne, hall, Bool.true_eq_false, false_or]
theorem all_takeWhile {p : UInt8 → Bool} (l : List UInt8) : (l.takeWhile p).all p = true := by
  induction l with
  | nil => rfl
  | cons c r ih => rw [List.takeWhile_cons]; split
                   · rename_i h; simp only [List.all_cons, h, ih, Bool.and_self]
                   · rfl
theorem numR_tok {s : List UInt8} {i : Nat} (h : i < s.length) (hc : isLetter (s.getD i 0) = false) (hd : isDigit (s.getD i 0) = true) :
    tokAt (s.drop i) i = if (numR ((s.drop i).takeWhile isDigit)).2 = false then .bad 3 i
      else if i + ((s.drop i).takeWhile isDigit).length < s.length ∧ isLetter (s.getD (i + ((s.drop i).takeWhile isDigit).length) 0) = true then .bad 4 (i + ((s.drop i).takeWhile isDigit).length)
      else .tok ⟨3, (s.drop i).takeWhile isDigit, (numR ((s.drop i).takeWhile isDigit)).1, i⟩ := by
  rw [tokAt_num h hc hd]
  have hT : (s.drop i).takeWhile isDigit = s.getD i 0 :: (s.drop (i + 1)).takeWhile isDigit := by rw [drop_cons h, List.takeWhile_cons, if_pos hd]
  have hall := all_takeWhile (p := isDigit) (s.drop i)
  rw [hT] at hall ⊢
  generalize (s.drop (i + 1)).takeWhile isDigit = U at *
  have h0 : (s.getD i 0 :: U).getD 0 0 = s.getD i 0 := rfl
  rw [numR_digits (by simp) hall, h0]
  by_cases hcond : (1 < (s.getD i 0 :: U).length ∧ s.getD i 0 = 48) ∨ 9223372036854775807 < numVal (s.getD i 0 :: U)
  · rw [if_pos hcond, if_pos hcond, if_pos rfl]
  · rw [if_neg hcond, if_neg hcond]; simp only [Bool.true_eq_false, if_false]

set_option maxHeartbeats 2000000 in
theorem rone_any (s : List UInt8) (i : Nat) (w : World) (hi : i < s.length) (hs : s.length ≤ 9000000000000000000) :
    Ret Tryd.prog 96 [str s, .int .i64 (i : Int)] w fun v w' => OnePost (tokAt (s.drop i) i) v ∧ Chg [] w w' := by
  refine ret_of [_, _] Tryd.func96 rfl Tryd.ntmps96 rfl ?_
  have st := St.init w []
  refine vc_seq ?_
  refine vc_region ?_
  refine vc_e (e_al (l := [_, _, _, _]) st rfl rfl Tryd.zeroValue53 rfl ?_)
  intro b4 w hb4 st
  refine vc_y rfl rfl (y_as rfl) ?_
  refine vc_y rfl rfl (y_as rfl) ?_
  refine vc_end ?_
  refine vq_then ?_
  refine vc_keep [(0, _), (1, _), (4, _)] ⟨rfl, rfl, rfl, trivial⟩ ?_
  refine vc_seq ?_
  refine vc_region ?_
  refine vc_y rfl rfl (y_mv rfl) ?_
  refine vc_y rfl rfl (y_as rfl) ?_
  refine vc_end ?_
  refine vq_then ?_
  refine vc_keep [(0, _), (1, _), (4, _), (7, _)] ⟨rfl, rfl, rfl, rfl, trivial⟩ ?_
  refine vc_seq ?_
  refine vc_block ?_
  refine vc_seq ?_
  refine vc_region ?_
  refine vc_y rfl rfl (y_mv rfl) ?_
  refine vc_y rfl rfl (y_mv rfl) ?_
  refine vc_y rfl rfl (y_ixs (k := i) rfl rfl Tryd.underlying9 rfl (by omega)) ?_
  refine vc_e (e_call [_] rfl rfl Tryd.call102 rfl (rletter_any _ _) ?_)
  rintro _ w ⟨rfl, rfl⟩
  refine vc_y rfl rfl (y_as rfl) ?_
  refine vc_end ?_
  refine vq_then ?_
  refine vc_keep [(0, _), (1, _), (4, _), (7, _), (12, _)] ⟨rfl, rfl, rfl, rfl, rfl, trivial⟩ ?_
  refine vc_ifs rfl ?_ ?_
  · intro hc12
    try simp only [dn] at hc12
    refine vc_seq ?_
    refine vc_block ?_
    refine vc_loop (w0 := _) (M := _) (fun (j : Nat) => [(0, str s), (1, .int .i64 (i : Int)), (4, .pointer (some ⟨b4, 0, none⟩)), (7, .int .i64 (j : Int))]) (fun _ => [.blk b4 (.cells zeroL.toArray 53 (0, 0))]) (fun j _ => i ≤ j ∧ j ≤ s.length ∧ (s.drop i).takeWhile isIdent = (s.drop i).take (j - i) ++ (s.drop j).takeWhile isIdent) (fun j => s.length - j) i ⟨rfl, rfl, rfl, rfl, trivial⟩ st ⟨by omega, by omega, by simp⟩ ?_
    rintro j w ⟨hij, hj, he⟩ st
    refine vc_seq ?_
    refine vc_seq ?_
    refine vc_region ?_
    refine vc_y rfl rfl (y_mv rfl) ?_
    refine vc_y rfl rfl (y_mv rfl) ?_
    refine vc_y rfl rfl (y_lens rfl Tryd.underlying9) ?_
    refine vc_y rfl rfl (y_lss rfl rfl) ?_
    refine vc_e (e_mvb rfl rfl rfl ?_ ?_)
    · intro hg21
      try simp only [dn] at hg21
      refine vc_y rfl rfl (y_mv rfl) ?_
      refine vc_y rfl rfl (y_mv rfl) ?_
      refine vc_y rfl rfl (y_ixs (k := j) rfl rfl Tryd.underlying9 rfl (by omega)) ?_
      refine vc_e (e_call [_] rfl rfl Tryd.call102 rfl (rletter_any _ _) ?_)
      rintro _ w ⟨rfl, rfl⟩
      refine vc_e (e_mvb rfl rfl rfl ?_ ?_)
      · intro hg26
        try simp only [dn] at hg26
        refine vc_e (e_skip rfl rfl ?_)
        refine vc_e (e_skip rfl rfl ?_)
        refine vc_e (e_skip rfl rfl ?_)
        refine vc_e (e_skip rfl rfl ?_)
        refine vc_y rfl rfl (y_pickt rfl rfl) ?_
        refine vc_y rfl rfl (y_pickt rfl rfl) ?_
        refine vc_end ?_
        refine vq_then ?_
        refine vc_keep [(0, _), (1, _), (4, _), (7, _), (32, _)] ⟨rfl, rfl, rfl, rfl, rfl, trivial⟩ ?_
        refine vc_ift rfl ?_
        refine vc_code_skip ?_
        refine vq_then ?_
        refine vc_keep [(0, _), (1, _), (4, _), (7, _)] ⟨rfl, rfl, rfl, rfl, trivial⟩ ?_
        refine vc_block ?_
        refine vc_region ?_
        refine vc_y rfl rfl (y_mv rfl) ?_
        refine vc_y rfl rfl (y_add rfl rfl rfl (by omega) (by omega)) ?_
        refine vc_y rfl rfl (y_as rfl) ?_
        refine vc_end ?_
        refine vq_block ?_
        refine vq_again (j + 1) ⟨rfl, rfl, rfl, rfl, trivial⟩ st ?_ ?_
        · exact ⟨by omega, by omega, tw_step hij (by omega) (isIdent_of _ (by first | (left; assumption) | (right; assumption))) he⟩
        · omega
      · intro hg26
        try simp only [dn] at hg26
        refine vc_y rfl rfl (y_mv rfl) ?_
        refine vc_y rfl rfl (y_mv rfl) ?_
        refine vc_y rfl rfl (y_ixs (k := j) rfl rfl Tryd.underlying9 rfl (by omega)) ?_
        refine vc_e (e_call [_] rfl rfl Tryd.call103 rfl (rdigit_any _ _) ?_)
        rintro _ w ⟨rfl, rfl⟩
        refine vc_y rfl rfl (y_pickf rfl rfl) ?_
        refine vc_y rfl rfl (y_pickt rfl rfl) ?_
        refine vc_end ?_
        refine vq_then ?_
        refine vc_keep [(0, _), (1, _), (4, _), (7, _), (32, _)] ⟨rfl, rfl, rfl, rfl, rfl, trivial⟩ ?_
        refine vc_ifs rfl ?_ ?_
        · intro hc32
          try simp only [dn] at hc32
          refine vc_code_skip ?_
          refine vq_then ?_
          refine vc_keep [(0, _), (1, _), (4, _), (7, _)] ⟨rfl, rfl, rfl, rfl, trivial⟩ ?_
          refine vc_block ?_
          refine vc_region ?_
          refine vc_y rfl rfl (y_mv rfl) ?_
          refine vc_y rfl rfl (y_add rfl rfl rfl (by omega) (by omega)) ?_
          refine vc_y rfl rfl (y_as rfl) ?_
          refine vc_end ?_
          refine vq_block ?_
          refine vq_again (j + 1) ⟨rfl, rfl, rfl, rfl, trivial⟩ st ?_ ?_
          · exact ⟨by omega, by omega, tw_step hij (by omega) (isIdent_of _ (by first | (left; assumption) | (right; assumption))) he⟩
          · omega
        · intro hc32
          try simp only [dn] at hc32
          have hT := tw_end (fun _ => isIdent_no _ (by assumption) (by assumption)) he
          refine vc_exit ?_
          refine vq_then_exit ?_
          refine vq_then_exit ?_
          refine vq_block_exit ?_
          refine vq_then ?_
          refine vc_keep [(0, _), (1, _), (4, _), (7, _)] ⟨rfl, rfl, rfl, rfl, trivial⟩ ?_
          refine vc_seq ?_
          refine vc_region ?_
          refine vc_y rfl rfl (y_mv rfl) ?_
          refine vc_y rfl rfl (y_mv rfl) ?_
          refine vc_y rfl rfl (y_mv rfl) ?_
          refine vc_y rfl rfl (y_sls (i := i) (j := j) rfl rfl rfl Tryd.underlying9 rfl rfl (by omega) (by omega)) ?_
          refine vc_y rfl rfl (y_mv rfl) ?_
          refine vc_y rfl rfl (y_bld (.agg #[_, _, _, _]) [(0, _), (1, _), (3, _)] rfl (fun w => by simp [Instr.build, go_sem] <;> repeat' constructor)) ?_
          refine vc_e (e_al (l := [_, _, _, _]) st rfl rfl Tryd.zeroValue53 rfl ?_)
          intro b8 w hb8 st
          refine vc_e (e_sts (vs := [_, _, _, _]) st 0 rfl rfl rfl rfl rfl Tryd.sizeOf53 rfl rfl (by first | (right; assumption) | (left; simp)) ?_)
          intro w st; dsimp only [setNth, wr] at st
          refine vc_end ?_
          refine vq_then ?_
          refine vc_keep [(1, _), (4, _), (7, _), (8, _)] ⟨rfl, rfl, rfl, rfl, trivial⟩ ?_
          refine vc_seq ?_
          refine vc_seq ?_
          refine vc_region ?_
          refine vc_y rfl rfl ((by exact y_faz (k := 1) rfl Tryd.underlying53 rfl rfl Tryd.sizeOf9 rfl)) ?_
          refine vc_y rfl rfl ((by exact y_ld st 0 rfl Tryd.isAgg9 rfl rfl)) ?_
          refine vc_e (e_call [_] rfl rfl Tryd.call104 rfl (rword_any _ _) ?_)
          rintro _ w ⟨rfl, rfl⟩
          refine vc_end ?_
          refine vq_then ?_
          refine vc_keep [(1, _), (4, _), (7, _), (8, _), (43, _)] ⟨rfl, rfl, rfl, rfl, rfl, trivial⟩ ?_
          refine vc_ifs rfl ?_ ?_
          · intro hc43
            try simp only [dn] at hc43
            refine vc_region ?_
            refine vc_y rfl rfl (y_fa0 rfl Tryd.underlying53 rfl rfl Tryd.sizeOf51 rfl) ?_
            refine vc_e (e_st st 0 rfl rfl rfl rfl Tryd.sizeOf51 rfl rfl (by first | (right; assumption) | (left; simp)) ?_)
            intro w st; dsimp only [setNth, wr] at st
            refine vc_end ?_
            refine vq_then ?_
            refine vc_keep [(1, _), (4, _), (7, _), (8, _)] ⟨rfl, rfl, rfl, rfl, trivial⟩ ?_
            refine vc_seq ?_
            refine vc_seq ?_
            refine vc_region ?_
            refine vc_y rfl rfl (y_mv rfl) ?_
            refine vc_y rfl rfl (y_mv rfl) ?_
            refine vc_y rfl rfl (y_sub rfl rfl rfl (by omega) (by omega)) ?_
            refine vc_y rfl rfl (y_gtr rfl rfl) ?_
            refine vc_end ?_
            refine vq_then ?_
            refine vc_keep [(1, _), (4, _), (8, _), (48, _)] ⟨rfl, rfl, rfl, rfl, trivial⟩ ?_
            refine vc_ifs rfl ?_ ?_
            · intro hc48
              try simp only [dn] at hc48
              refine vc_seq ?_
              refine vc_region ?_
              refine vc_y rfl rfl ((by exact y_lda (vs := [_, _, _, _]) st 0 rfl Tryd.isAgg53 Tryd.sizeOf53 rfl rfl)) ?_
              refine vc_y rfl rfl (y_mv rfl) ?_
              refine vc_y rfl rfl (y_add rfl rfl (by omega : _ = ((i + 32 : Nat) : Int)) (by omega) (by omega)) ?_
              refine vc_e (e_sts (vs := [_, _, _, _]) st 1 rfl rfl rfl rfl rfl Tryd.sizeOf53 rfl rfl (by first | (right; assumption) | (left; simp)) ?_)
              intro w st; dsimp only [setNth, wr] at st
              refine vc_y rfl rfl (y_as rfl) ?_
              refine vc_y rfl rfl (y_as rfl) ?_
              refine vc_end ?_
              refine vq_then ?_
              refine vc_keep [(4, _), (5, _), (6, _)] ⟨rfl, rfl, rfl, trivial⟩ ?_
              refine vc_ret ?_
              refine vq_then_ret ?_
              refine vq_block_ret ?_
              refine vq_then_ret ?_
              refine vq_ret3 st (.inl rfl) Tryd.results96 (by exact .cell 1 rfl rfl Tryd.isAgg53 Tryd.sizeOf53) (.tmp rfl) (.tmp rfl) ?_
              refine ⟨_, rfl, ?_⟩
              have hlen : (List.take (j - i) (List.drop i s)).length = j - i := by simp; omega
              refine ⟨?_, st.chg⟩
              rw [tokAt_word hi (by assumption), hT, hlen]
              first
              | (exfalso; have := isWord_len hc43; omega)
              | (rw [if_pos hc43]; rfl)
              | (rw [if_neg (by rw [hc43]; simp), if_pos (by omega)]; exact ⟨_, _, _, _, rfl⟩)
              | (rw [if_neg (by rw [hc43]; simp), if_neg (by omega)]; rfl)
            · intro hc48
              try simp only [dn] at hc48
              refine vc_code_skip ?_
              refine vq_then ?_
              refine vc_keep [(4, _), (8, _)] ⟨rfl, rfl, trivial⟩ ?_
              refine vc_seq ?_
              refine vc_region ?_
              refine vc_y rfl rfl ((by exact y_lda (vs := [_, _, _, _]) st 0 rfl Tryd.isAgg53 Tryd.sizeOf53 rfl rfl)) ?_
              refine vc_e (e_sts (vs := [_, _, _, _]) st 1 rfl rfl rfl rfl rfl Tryd.sizeOf53 rfl rfl (by first | (right; assumption) | (left; simp)) ?_)
              intro w st; dsimp only [setNth, wr] at st
              refine vc_y rfl rfl (y_as rfl) ?_
              refine vc_y rfl rfl (y_as rfl) ?_
              refine vc_end ?_
              refine vq_then ?_
              refine vc_keep [(4, _), (5, _), (6, _)] ⟨rfl, rfl, rfl, trivial⟩ ?_
              refine vc_ret ?_
              refine vq_block_ret ?_
              refine vq_then_ret ?_
              refine vq_ret3 st (.inl rfl) Tryd.results96 (by exact .cell 1 rfl rfl Tryd.isAgg53 Tryd.sizeOf53) (.tmp rfl) (.tmp rfl) ?_
              refine ⟨_, rfl, ?_⟩
              have hlen : (List.take (j - i) (List.drop i s)).length = j - i := by simp; omega
              refine ⟨?_, st.chg⟩
              rw [tokAt_word hi (by assumption), hT, hlen]
              first
              | (exfalso; have := isWord_len hc43; omega)
              | (rw [if_pos hc43]; rfl)
              | (rw [if_neg (by rw [hc43]; simp), if_pos (by omega)]; exact ⟨_, _, _, _, rfl⟩)
              | (rw [if_neg (by rw [hc43]; simp), if_neg (by omega)]; rfl)
          · intro hc43
            try simp only [dn] at hc43
            refine vc_code_skip ?_
            refine vq_then ?_
            refine vc_keep [(1, _), (4, _), (7, _), (8, _)] ⟨rfl, rfl, rfl, rfl, trivial⟩ ?_
            refine vc_seq ?_
            refine vc_seq ?_
            refine vc_region ?_
            refine vc_y rfl rfl (y_mv rfl) ?_
            refine vc_y rfl rfl (y_mv rfl) ?_
            refine vc_y rfl rfl (y_sub rfl rfl rfl (by omega) (by omega)) ?_
            refine vc_y rfl rfl (y_gtr rfl rfl) ?_
            refine vc_end ?_
            refine vq_then ?_
            refine vc_keep [(1, _), (4, _), (8, _), (48, _)] ⟨rfl, rfl, rfl, rfl, trivial⟩ ?_
            refine vc_ifs rfl ?_ ?_
            · intro hc48
              try simp only [dn] at hc48
              refine vc_seq ?_
              refine vc_region ?_
              refine vc_y rfl rfl ((by exact y_lda (vs := [_, _, _, _]) st 0 rfl Tryd.isAgg53 Tryd.sizeOf53 rfl rfl)) ?_
              refine vc_y rfl rfl (y_mv rfl) ?_
              refine vc_y rfl rfl (y_add rfl rfl (by omega : _ = ((i + 32 : Nat) : Int)) (by omega) (by omega)) ?_
              refine vc_e (e_sts (vs := [_, _, _, _]) st 1 rfl rfl rfl rfl rfl Tryd.sizeOf53 rfl rfl (by first | (right; assumption) | (left; simp)) ?_)
              intro w st; dsimp only [setNth, wr] at st
              refine vc_y rfl rfl (y_as rfl) ?_
              refine vc_y rfl rfl (y_as rfl) ?_
              refine vc_end ?_
              refine vq_then ?_
              refine vc_keep [(4, _), (5, _), (6, _)] ⟨rfl, rfl, rfl, trivial⟩ ?_
              refine vc_ret ?_
              refine vq_then_ret ?_
              refine vq_block_ret ?_
              refine vq_then_ret ?_
              refine vq_ret3 st (.inl rfl) Tryd.results96 (by exact .cell 1 rfl rfl Tryd.isAgg53 Tryd.sizeOf53) (.tmp rfl) (.tmp rfl) ?_
              refine ⟨_, rfl, ?_⟩
              have hlen : (List.take (j - i) (List.drop i s)).length = j - i := by simp; omega
              refine ⟨?_, st.chg⟩
              rw [tokAt_word hi (by assumption), hT, hlen]
              first
              | (exfalso; have := isWord_len hc43; omega)
              | (rw [if_pos hc43]; rfl)
              | (rw [if_neg (by rw [hc43]; simp), if_pos (by omega)]; exact ⟨_, _, _, _, rfl⟩)
              | (rw [if_neg (by rw [hc43]; simp), if_neg (by omega)]; rfl)
            · intro hc48
              try simp only [dn] at hc48
              refine vc_code_skip ?_
              refine vq_then ?_
              refine vc_keep [(4, _), (8, _)] ⟨rfl, rfl, trivial⟩ ?_
              refine vc_seq ?_
              refine vc_region ?_
              refine vc_y rfl rfl ((by exact y_lda (vs := [_, _, _, _]) st 0 rfl Tryd.isAgg53 Tryd.sizeOf53 rfl rfl)) ?_
              refine vc_e (e_sts (vs := [_, _, _, _]) st 1 rfl rfl rfl rfl rfl Tryd.sizeOf53 rfl rfl (by first | (right; assumption) | (left; simp)) ?_)
              intro w st; dsimp only [setNth, wr] at st
              refine vc_y rfl rfl (y_as rfl) ?_
              refine vc_y rfl rfl (y_as rfl) ?_
              refine vc_end ?_
              refine vq_then ?_
              refine vc_keep [(4, _), (5, _), (6, _)] ⟨rfl, rfl, rfl, trivial⟩ ?_
              refine vc_ret ?_
              refine vq_block_ret ?_
              refine vq_then_ret ?_
              refine vq_ret3 st (.inl rfl) Tryd.results96 (by exact .cell 1 rfl rfl Tryd.isAgg53 Tryd.sizeOf53) (.tmp rfl) (.tmp rfl) ?_
              refine ⟨_, rfl, ?_⟩
              have hlen : (List.take (j - i) (List.drop i s)).length = j - i := by simp; omega
              refine ⟨?_, st.chg⟩
              rw [tokAt_word hi (by assumption), hT, hlen]
              first
              | (exfalso; have := isWord_len hc43; omega)
              | (rw [if_pos hc43]; rfl)
              | (rw [if_neg (by rw [hc43]; simp), if_pos (by omega)]; exact ⟨_, _, _, _, rfl⟩)
              | (rw [if_neg (by rw [hc43]; simp), if_neg (by omega)]; rfl)
    · intro hg21
      try simp only [dn] at hg21
      have hT := tw_end (fun h => absurd h (by omega)) he
      refine vc_e (e_skip rfl rfl ?_)
      refine vc_e (e_skip rfl rfl ?_)
      refine vc_e (e_skip rfl rfl ?_)
      refine vc_e (e_skip rfl rfl ?_)
      refine vc_e (e_skip rfl rfl ?_)
      refine vc_e (e_skip rfl rfl ?_)
      refine vc_e (e_skip rfl rfl ?_)
      refine vc_e (e_skip rfl rfl ?_)
      refine vc_e (e_skip rfl rfl ?_)
      refine vc_e (e_skip rfl rfl ?_)
      refine vc_y rfl rfl (y_pickf rfl rfl) ?_
      refine vc_end ?_
      refine vq_then ?_
      refine vc_keep [(0, _), (1, _), (4, _), (7, _), (32, _)] ⟨rfl, rfl, rfl, rfl, rfl, trivial⟩ ?_
      refine vc_iff rfl ?_
      refine vc_exit ?_
      refine vq_then_exit ?_
      refine vq_then_exit ?_
      refine vq_block_exit ?_
      refine vq_then ?_
      refine vc_keep [(0, _), (1, _), (4, _), (7, _)] ⟨rfl, rfl, rfl, rfl, trivial⟩ ?_
      refine vc_seq ?_
      refine vc_region ?_
      refine vc_y rfl rfl (y_mv rfl) ?_
      refine vc_y rfl rfl (y_mv rfl) ?_
      refine vc_y rfl rfl (y_mv rfl) ?_
      refine vc_y rfl rfl (y_sls (i := i) (j := j) rfl rfl rfl Tryd.underlying9 rfl rfl (by omega) (by omega)) ?_
      refine vc_y rfl rfl (y_mv rfl) ?_
      refine vc_y rfl rfl (y_bld (.agg #[_, _, _, _]) [(0, _), (1, _), (3, _)] rfl (fun w => by simp [Instr.build, go_sem] <;> repeat' constructor)) ?_
      refine vc_e (e_al (l := [_, _, _, _]) st rfl rfl Tryd.zeroValue53 rfl ?_)
      intro b8 w hb8 st
      refine vc_e (e_sts (vs := [_, _, _, _]) st 0 rfl rfl rfl rfl rfl Tryd.sizeOf53 rfl rfl (by first | (right; assumption) | (left; simp)) ?_)
      intro w st; dsimp only [setNth, wr] at st
      refine vc_end ?_
      refine vq_then ?_
      refine vc_keep [(1, _), (4, _), (7, _), (8, _)] ⟨rfl, rfl, rfl, rfl, trivial⟩ ?_
      refine vc_seq ?_
      refine vc_seq ?_
      refine vc_region ?_
      refine vc_y rfl rfl ((by exact y_faz (k := 1) rfl Tryd.underlying53 rfl rfl Tryd.sizeOf9 rfl)) ?_
      refine vc_y rfl rfl ((by exact y_ld st 0 rfl Tryd.isAgg9 rfl rfl)) ?_
      refine vc_e (e_call [_] rfl rfl Tryd.call104 rfl (rword_any _ _) ?_)
      rintro _ w ⟨rfl, rfl⟩
      refine vc_end ?_
      refine vq_then ?_
      refine vc_keep [(1, _), (4, _), (7, _), (8, _), (43, _)] ⟨rfl, rfl, rfl, rfl, rfl, trivial⟩ ?_
      refine vc_ifs rfl ?_ ?_
      · intro hc43
        try simp only [dn] at hc43
        refine vc_region ?_
        refine vc_y rfl rfl (y_fa0 rfl Tryd.underlying53 rfl rfl Tryd.sizeOf51 rfl) ?_
        refine vc_e (e_st st 0 rfl rfl rfl rfl Tryd.sizeOf51 rfl rfl (by first | (right; assumption) | (left; simp)) ?_)
        intro w st; dsimp only [setNth, wr] at st
        refine vc_end ?_
        refine vq_then ?_
        refine vc_keep [(1, _), (4, _), (7, _), (8, _)] ⟨rfl, rfl, rfl, rfl, trivial⟩ ?_
        refine vc_seq ?_
        refine vc_seq ?_
        refine vc_region ?_
        refine vc_y rfl rfl (y_mv rfl) ?_
        refine vc_y rfl rfl (y_mv rfl) ?_
        refine vc_y rfl rfl (y_sub rfl rfl rfl (by omega) (by omega)) ?_
        refine vc_y rfl rfl (y_gtr rfl rfl) ?_
        refine vc_end ?_
        refine vq_then ?_
        refine vc_keep [(1, _), (4, _), (8, _), (48, _)] ⟨rfl, rfl, rfl, rfl, trivial⟩ ?_
        refine vc_ifs rfl ?_ ?_
        · intro hc48
          try simp only [dn] at hc48
          refine vc_seq ?_
          refine vc_region ?_
          refine vc_y rfl rfl ((by exact y_lda (vs := [_, _, _, _]) st 0 rfl Tryd.isAgg53 Tryd.sizeOf53 rfl rfl)) ?_
          refine vc_y rfl rfl (y_mv rfl) ?_
          refine vc_y rfl rfl (y_add rfl rfl (by omega : _ = ((i + 32 : Nat) : Int)) (by omega) (by omega)) ?_
          refine vc_e (e_sts (vs := [_, _, _, _]) st 1 rfl rfl rfl rfl rfl Tryd.sizeOf53 rfl rfl (by first | (right; assumption) | (left; simp)) ?_)
          intro w st; dsimp only [setNth, wr] at st
          refine vc_y rfl rfl (y_as rfl) ?_
          refine vc_y rfl rfl (y_as rfl) ?_
          refine vc_end ?_
          refine vq_then ?_
          refine vc_keep [(4, _), (5, _), (6, _)] ⟨rfl, rfl, rfl, trivial⟩ ?_
          refine vc_ret ?_
          refine vq_then_ret ?_
          refine vq_block_ret ?_
          refine vq_then_ret ?_
          refine vq_ret3 st (.inl rfl) Tryd.results96 (by exact .cell 1 rfl rfl Tryd.isAgg53 Tryd.sizeOf53) (.tmp rfl) (.tmp rfl) ?_
          refine ⟨_, rfl, ?_⟩
          have hlen : (List.take (j - i) (List.drop i s)).length = j - i := by simp; omega
          refine ⟨?_, st.chg⟩
          rw [tokAt_word hi (by assumption), hT, hlen]
          first
          | (exfalso; have := isWord_len hc43; omega)
          | (rw [if_pos hc43]; rfl)
          | (rw [if_neg (by rw [hc43]; simp), if_pos (by omega)]; exact ⟨_, _, _, _, rfl⟩)
          | (rw [if_neg (by rw [hc43]; simp), if_neg (by omega)]; rfl)
        · intro hc48
          try simp only [dn] at hc48
          refine vc_code_skip ?_
          refine vq_then ?_
          refine vc_keep [(4, _), (8, _)] ⟨rfl, rfl, trivial⟩ ?_
          refine vc_seq ?_
          refine vc_region ?_
          refine vc_y rfl rfl ((by exact y_lda (vs := [_, _, _, _]) st 0 rfl Tryd.isAgg53 Tryd.sizeOf53 rfl rfl)) ?_
          refine vc_e (e_sts (vs := [_, _, _, _]) st 1 rfl rfl rfl rfl rfl Tryd.sizeOf53 rfl rfl (by first | (right; assumption) | (left; simp)) ?_)
          intro w st; dsimp only [setNth, wr] at st
          refine vc_y rfl rfl (y_as rfl) ?_
          refine vc_y rfl rfl (y_as rfl) ?_
          refine vc_end ?_
          refine vq_then ?_
          refine vc_keep [(4, _), (5, _), (6, _)] ⟨rfl, rfl, rfl, trivial⟩ ?_
          refine vc_ret ?_
          refine vq_block_ret ?_
          refine vq_then_ret ?_
          refine vq_ret3 st (.inl rfl) Tryd.results96 (by exact .cell 1 rfl rfl Tryd.isAgg53 Tryd.sizeOf53) (.tmp rfl) (.tmp rfl) ?_
          refine ⟨_, rfl, ?_⟩
          have hlen : (List.take (j - i) (List.drop i s)).length = j - i := by simp; omega
          refine ⟨?_, st.chg⟩
          rw [tokAt_word hi (by assumption), hT, hlen]
          first
          | (exfalso; have := isWord_len hc43; omega)
          | (rw [if_pos hc43]; rfl)
          | (rw [if_neg (by rw [hc43]; simp), if_pos (by omega)]; exact ⟨_, _, _, _, rfl⟩)
          | (rw [if_neg (by rw [hc43]; simp), if_neg (by omega)]; rfl)
      · intro hc43
        try simp only [dn] at hc43
        refine vc_code_skip ?_
        refine vq_then ?_
        refine vc_keep [(1, _), (4, _), (7, _), (8, _)] ⟨rfl, rfl, rfl, rfl, trivial⟩ ?_
        refine vc_seq ?_
        refine vc_seq ?_
        refine vc_region ?_
        refine vc_y rfl rfl (y_mv rfl) ?_
        refine vc_y rfl rfl (y_mv rfl) ?_
        refine vc_y rfl rfl (y_sub rfl rfl rfl (by omega) (by omega)) ?_
        refine vc_y rfl rfl (y_gtr rfl rfl) ?_
        refine vc_end ?_
        refine vq_then ?_
        refine vc_keep [(1, _), (4, _), (8, _), (48, _)] ⟨rfl, rfl, rfl, rfl, trivial⟩ ?_
        refine vc_ifs rfl ?_ ?_
        · intro hc48
          try simp only [dn] at hc48
          refine vc_seq ?_
          refine vc_region ?_
          refine vc_y rfl rfl ((by exact y_lda (vs := [_, _, _, _]) st 0 rfl Tryd.isAgg53 Tryd.sizeOf53 rfl rfl)) ?_
          refine vc_y rfl rfl (y_mv rfl) ?_
          refine vc_y rfl rfl (y_add rfl rfl (by omega : _ = ((i + 32 : Nat) : Int)) (by omega) (by omega)) ?_
          refine vc_e (e_sts (vs := [_, _, _, _]) st 1 rfl rfl rfl rfl rfl Tryd.sizeOf53 rfl rfl (by first | (right; assumption) | (left; simp)) ?_)
          intro w st; dsimp only [setNth, wr] at st
          refine vc_y rfl rfl (y_as rfl) ?_
          refine vc_y rfl rfl (y_as rfl) ?_
          refine vc_end ?_
          refine vq_then ?_
          refine vc_keep [(4, _), (5, _), (6, _)] ⟨rfl, rfl, rfl, trivial⟩ ?_
          refine vc_ret ?_
          refine vq_then_ret ?_
          refine vq_block_ret ?_
          refine vq_then_ret ?_
          refine vq_ret3 st (.inl rfl) Tryd.results96 (by exact .cell 1 rfl rfl Tryd.isAgg53 Tryd.sizeOf53) (.tmp rfl) (.tmp rfl) ?_
          refine ⟨_, rfl, ?_⟩
          have hlen : (List.take (j - i) (List.drop i s)).length = j - i := by simp; omega
          refine ⟨?_, st.chg⟩
          rw [tokAt_word hi (by assumption), hT, hlen]
          first
          | (exfalso; have := isWord_len hc43; omega)
          | (rw [if_pos hc43]; rfl)
          | (rw [if_neg (by rw [hc43]; simp), if_pos (by omega)]; exact ⟨_, _, _, _, rfl⟩)
          | (rw [if_neg (by rw [hc43]; simp), if_neg (by omega)]; rfl)
        · intro hc48
          try simp only [dn] at hc48
          refine vc_code_skip ?_
          refine vq_then ?_
          refine vc_keep [(4, _), (8, _)] ⟨rfl, rfl, trivial⟩ ?_
          refine vc_seq ?_
          refine vc_region ?_
          refine vc_y rfl rfl ((by exact y_lda (vs := [_, _, _, _]) st 0 rfl Tryd.isAgg53 Tryd.sizeOf53 rfl rfl)) ?_
          refine vc_e (e_sts (vs := [_, _, _, _]) st 1 rfl rfl rfl rfl rfl Tryd.sizeOf53 rfl rfl (by first | (right; assumption) | (left; simp)) ?_)
          intro w st; dsimp only [setNth, wr] at st
          refine vc_y rfl rfl (y_as rfl) ?_
          refine vc_y rfl rfl (y_as rfl) ?_
          refine vc_end ?_
          refine vq_then ?_
          refine vc_keep [(4, _), (5, _), (6, _)] ⟨rfl, rfl, rfl, trivial⟩ ?_
          refine vc_ret ?_
          refine vq_block_ret ?_
          refine vq_then_ret ?_
          refine vq_ret3 st (.inl rfl) Tryd.results96 (by exact .cell 1 rfl rfl Tryd.isAgg53 Tryd.sizeOf53) (.tmp rfl) (.tmp rfl) ?_
          refine ⟨_, rfl, ?_⟩
          have hlen : (List.take (j - i) (List.drop i s)).length = j - i := by simp; omega
          refine ⟨?_, st.chg⟩
          rw [tokAt_word hi (by assumption), hT, hlen]
          first
          | (exfalso; have := isWord_len hc43; omega)
          | (rw [if_pos hc43]; rfl)
          | (rw [if_neg (by rw [hc43]; simp), if_pos (by omega)]; exact ⟨_, _, _, _, rfl⟩)
          | (rw [if_neg (by rw [hc43]; simp), if_neg (by omega)]; rfl)
  · intro hc12
    try simp only [dn] at hc12
    refine vc_seq ?_
    refine vc_region ?_
    refine vc_y rfl rfl (y_mv rfl) ?_
    refine vc_y rfl rfl (y_mv rfl) ?_
    refine vc_y rfl rfl (y_ixs (k := i) rfl rfl Tryd.underlying9 rfl (by omega)) ?_
    refine vc_e (e_call [_] rfl rfl Tryd.call103 rfl (rdigit_any _ _) ?_)
    rintro _ w ⟨rfl, rfl⟩
    refine vc_y rfl rfl (y_as rfl) ?_
    refine vc_end ?_
    refine vq_then ?_
    refine vc_keep [(0, _), (1, _), (4, _), (7, _), (53, _)] ⟨rfl, rfl, rfl, rfl, rfl, trivial⟩ ?_
    refine vc_ifs rfl ?_ ?_
    · intro hc53
      try simp only [dn] at hc53
      refine vc_seq ?_
      refine vc_block ?_
      refine vc_loop (w0 := _) (M := _) (fun (j : Nat) => [(0, str s), (1, .int .i64 (i : Int)), (4, .pointer (some ⟨b4, 0, none⟩)), (7, .int .i64 (j : Int))]) (fun _ => [.blk b4 (.cells zeroL.toArray 53 (0, 0))]) (fun j _ => i ≤ j ∧ j ≤ s.length ∧ (s.drop i).takeWhile isDigit = (s.drop i).take (j - i) ++ (s.drop j).takeWhile isDigit) (fun j => s.length - j) i ⟨rfl, rfl, rfl, rfl, trivial⟩ st ⟨by omega, by omega, by simp⟩ ?_
      rintro j w ⟨hij, hj, he⟩ st
      refine vc_seq ?_
      refine vc_seq ?_
      refine vc_region ?_
      refine vc_y rfl rfl (y_mv rfl) ?_
      refine vc_y rfl rfl (y_mv rfl) ?_
      refine vc_y rfl rfl (y_lens rfl Tryd.underlying9) ?_
      refine vc_y rfl rfl (y_lss rfl rfl) ?_
      refine vc_e (e_mvb rfl rfl rfl ?_ ?_)
      · intro hg62
        try simp only [dn] at hg62
        refine vc_y rfl rfl (y_mv rfl) ?_
        refine vc_y rfl rfl (y_mv rfl) ?_
        refine vc_y rfl rfl (y_ixs (k := j) rfl rfl Tryd.underlying9 rfl (by omega)) ?_
        refine vc_e (e_call [_] rfl rfl Tryd.call103 rfl (rdigit_any _ _) ?_)
        rintro _ w ⟨rfl, rfl⟩
        refine vc_y rfl rfl (y_pickt rfl rfl) ?_
        refine vc_end ?_
        refine vq_then ?_
        refine vc_keep [(0, _), (1, _), (4, _), (7, _), (67, _)] ⟨rfl, rfl, rfl, rfl, rfl, trivial⟩ ?_
        refine vc_ifs rfl ?_ ?_
        · intro hc67
          try simp only [dn] at hc67
          refine vc_code_skip ?_
          refine vq_then ?_
          refine vc_keep [(0, _), (1, _), (4, _), (7, _)] ⟨rfl, rfl, rfl, rfl, trivial⟩ ?_
          refine vc_block ?_
          refine vc_region ?_
          refine vc_y rfl rfl (y_mv rfl) ?_
          refine vc_y rfl rfl (y_add rfl rfl rfl (by omega) (by omega)) ?_
          refine vc_y rfl rfl (y_as rfl) ?_
          refine vc_end ?_
          refine vq_block ?_
          refine vq_again (j + 1) ⟨rfl, rfl, rfl, rfl, trivial⟩ st ?_ ?_
          · exact ⟨by omega, by omega, tw_step hij (by omega) (by assumption) he⟩
          · omega
        · intro hc67
          try simp only [dn] at hc67
          have hT := tw_end (fun _ => by assumption) he
          refine vc_exit ?_
          refine vq_then_exit ?_
          refine vq_then_exit ?_
          refine vq_block_exit ?_
          refine vq_then ?_
          refine vc_keep [(0, _), (1, _), (4, _), (7, _)] ⟨rfl, rfl, rfl, rfl, trivial⟩ ?_
          refine vc_seq ?_
          refine vc_region ?_
          refine vc_y rfl rfl (y_mv rfl) ?_
          refine vc_y rfl rfl (y_mv rfl) ?_
          refine vc_y rfl rfl (y_mv rfl) ?_
          refine vc_y rfl rfl (y_sls (i := i) (j := j) rfl rfl rfl Tryd.underlying9 rfl rfl (by omega) (by omega)) ?_
          refine vc_e (e_call [_] rfl rfl Tryd.call105 rfl (rnumber_any _ _ (by simp; omega)) ?_)
          rintro _ w ⟨rfl, rfl⟩
          refine vc_y rfl rfl (y_mv rfl) ?_
          refine vc_y rfl rfl (y_ext rfl rfl) ?_
          refine vc_y rfl rfl (y_ext rfl rfl) ?_
          refine vc_y rfl rfl (y_as rfl) ?_
          refine vc_y rfl rfl (y_as rfl) ?_
          refine vc_end ?_
          refine vq_then ?_
          refine vc_keep [(0, _), (1, _), (4, _), (7, _), (9, _), (10, _)] ⟨rfl, rfl, rfl, rfl, rfl, rfl, trivial⟩ ?_
          refine vc_seq ?_
          refine vc_seq ?_
          refine vc_region ?_
          refine vc_y rfl rfl (y_mv rfl) ?_
          refine vc_y rfl rfl (y_not rfl) ?_
          refine vc_end ?_
          refine vq_then ?_
          refine vc_keep [(0, _), (1, _), (4, _), (7, _), (9, _), (79, _)] ⟨rfl, rfl, rfl, rfl, rfl, rfl, trivial⟩ ?_
          refine vc_ifs rfl ?_ ?_
          · intro hc79
            try simp only [dn] at hc79
            refine vc_seq ?_
            refine vc_region ?_
            refine vc_y rfl rfl (y_bld (.agg #[_, _, _, _]) [] rfl (fun w => by simp [Instr.build, go_sem] <;> repeat' constructor)) ?_
            refine vc_y rfl rfl (y_mv rfl) ?_
            refine vc_e (e_sts (vs := [_, _, _, _]) st 0 rfl rfl rfl rfl rfl Tryd.sizeOf53 rfl rfl (by first | (right; assumption) | (left; simp)) ?_)
            intro w st; dsimp only [setNth, wr] at st
            refine vc_y rfl rfl (y_as rfl) ?_
            refine vc_y rfl rfl (y_as rfl) ?_
            refine vc_end ?_
            refine vq_then ?_
            refine vc_keep [(4, _), (5, _), (6, _)] ⟨rfl, rfl, rfl, trivial⟩ ?_
            refine vc_ret ?_
            refine vq_then_ret ?_
            refine vq_block_ret ?_
            refine vq_then_ret ?_
            refine vq_ret3 st (.inl rfl) Tryd.results96 (by exact .cell 0 rfl rfl Tryd.isAgg53 Tryd.sizeOf53) (.tmp rfl) (.tmp rfl) ?_
            refine ⟨_, rfl, ?_⟩
            have hlen : (List.take (j - i) (List.drop i s)).length = j - i := by simp; omega
            refine ⟨?_, st.chg⟩
            rw [numR_tok hi (by assumption) (by assumption), hT, hlen, show i + (j - i) = j by omega]
            first
            | (rw [if_pos (by assumption)]; exact ⟨_, _, _, _, rfl⟩)
            | (rw [if_neg (by rw [hc79]; simp), if_pos ⟨by omega, by assumption⟩]; exact ⟨_, _, _, _, rfl⟩)
            | (rw [if_neg (by rw [hc79]; simp), if_neg (by rintro ⟨h1, h2⟩; first | omega | simp_all)]; rfl)
          · intro hc79
            try simp only [dn] at hc79
            refine vc_code_skip ?_
            refine vq_then ?_
            refine vc_keep [(0, _), (1, _), (4, _), (7, _), (9, _)] ⟨rfl, rfl, rfl, rfl, rfl, trivial⟩ ?_
            refine vc_seq ?_
            refine vc_seq ?_
            refine vc_region ?_
            refine vc_y rfl rfl (y_mv rfl) ?_
            refine vc_y rfl rfl (y_mv rfl) ?_
            refine vc_y rfl rfl (y_lens rfl Tryd.underlying9) ?_
            refine vc_y rfl rfl (y_lss rfl rfl) ?_
            refine vc_e (e_mvb rfl rfl rfl ?_ ?_)
            · intro hg86
              try simp only [dn] at hg86
              refine vc_y rfl rfl (y_mv rfl) ?_
              refine vc_y rfl rfl (y_mv rfl) ?_
              refine vc_y rfl rfl (y_ixs (k := j) rfl rfl Tryd.underlying9 rfl (by omega)) ?_
              refine vc_e (e_call [_] rfl rfl Tryd.call102 rfl (rletter_any _ _) ?_)
              rintro _ w ⟨rfl, rfl⟩
              refine vc_y rfl rfl (y_pickt rfl rfl) ?_
              refine vc_end ?_
              refine vq_then ?_
              refine vc_keep [(0, _), (1, _), (4, _), (7, _), (9, _), (91, _)] ⟨rfl, rfl, rfl, rfl, rfl, rfl, trivial⟩ ?_
              refine vc_ifs rfl ?_ ?_
              · intro hc91
                try simp only [dn] at hc91
                refine vc_seq ?_
                refine vc_region ?_
                refine vc_y rfl rfl (y_bld (.agg #[_, _, _, _]) [] rfl (fun w => by simp [Instr.build, go_sem] <;> repeat' constructor)) ?_
                refine vc_y rfl rfl (y_mv rfl) ?_
                refine vc_e (e_sts (vs := [_, _, _, _]) st 0 rfl rfl rfl rfl rfl Tryd.sizeOf53 rfl rfl (by first | (right; assumption) | (left; simp)) ?_)
                intro w st; dsimp only [setNth, wr] at st
                refine vc_y rfl rfl (y_as rfl) ?_
                refine vc_y rfl rfl (y_as rfl) ?_
                refine vc_end ?_
                refine vq_then ?_
                refine vc_keep [(4, _), (5, _), (6, _)] ⟨rfl, rfl, rfl, trivial⟩ ?_
                refine vc_ret ?_
                refine vq_then_ret ?_
                refine vq_block_ret ?_
                refine vq_then_ret ?_
                refine vq_ret3 st (.inl rfl) Tryd.results96 (by exact .cell 0 rfl rfl Tryd.isAgg53 Tryd.sizeOf53) (.tmp rfl) (.tmp rfl) ?_
                refine ⟨_, rfl, ?_⟩
                have hlen : (List.take (j - i) (List.drop i s)).length = j - i := by simp; omega
                refine ⟨?_, st.chg⟩
                rw [numR_tok hi (by assumption) (by assumption), hT, hlen, show i + (j - i) = j by omega]
                first
                | (rw [if_pos (by assumption)]; exact ⟨_, _, _, _, rfl⟩)
                | (rw [if_neg (by rw [hc79]; simp), if_pos ⟨by omega, by assumption⟩]; exact ⟨_, _, _, _, rfl⟩)
                | (rw [if_neg (by rw [hc79]; simp), if_neg (by rintro ⟨h1, h2⟩; first | omega | simp_all)]; rfl)
              · intro hc91
                try simp only [dn] at hc91
                refine vc_code_skip ?_
                refine vq_then ?_
                refine vc_keep [(0, _), (1, _), (4, _), (7, _), (9, _)] ⟨rfl, rfl, rfl, rfl, rfl, trivial⟩ ?_
                refine vc_seq ?_
                refine vc_region ?_
                refine vc_y rfl rfl (y_mv rfl) ?_
                refine vc_y rfl rfl (y_mv rfl) ?_
                refine vc_y rfl rfl (y_mv rfl) ?_
                refine vc_y rfl rfl (y_sls (i := i) (j := j) rfl rfl rfl Tryd.underlying9 rfl rfl (by omega) (by omega)) ?_
                refine vc_y rfl rfl (y_mv rfl) ?_
                refine vc_y rfl rfl (y_mv rfl) ?_
                refine vc_y rfl rfl (y_bld (.agg #[_, _, _, _]) [(0, _), (1, _), (2, _), (3, _)] rfl (fun w => by simp [Instr.build, go_sem] <;> repeat' constructor)) ?_
                refine vc_e (e_sts (vs := [_, _, _, _]) st 0 rfl rfl rfl rfl rfl Tryd.sizeOf53 rfl rfl (by first | (right; assumption) | (left; simp)) ?_)
                intro w st; dsimp only [setNth, wr] at st
                refine vc_y rfl rfl (y_as rfl) ?_
                refine vc_y rfl rfl (y_as rfl) ?_
                refine vc_end ?_
                refine vq_then ?_
                refine vc_keep [(4, _), (5, _), (6, _)] ⟨rfl, rfl, rfl, trivial⟩ ?_
                refine vc_ret ?_
                refine vq_block_ret ?_
                refine vq_then_ret ?_
                refine vq_ret3 st (.inl rfl) Tryd.results96 (by exact .cell 0 rfl rfl Tryd.isAgg53 Tryd.sizeOf53) (.tmp rfl) (.tmp rfl) ?_
                refine ⟨_, rfl, ?_⟩
                have hlen : (List.take (j - i) (List.drop i s)).length = j - i := by simp; omega
                refine ⟨?_, st.chg⟩
                rw [numR_tok hi (by assumption) (by assumption), hT, hlen, show i + (j - i) = j by omega]
                first
                | (rw [if_pos (by assumption)]; exact ⟨_, _, _, _, rfl⟩)
                | (rw [if_neg (by rw [hc79]; simp), if_pos ⟨by omega, by assumption⟩]; exact ⟨_, _, _, _, rfl⟩)
                | (rw [if_neg (by rw [hc79]; simp), if_neg (by rintro ⟨h1, h2⟩; first | omega | simp_all)]; rfl)
            · intro hg86
              try simp only [dn] at hg86
              refine vc_e (e_skip rfl rfl ?_)
              refine vc_e (e_skip rfl rfl ?_)
              refine vc_e (e_skip rfl rfl ?_)
              refine vc_e (e_skip rfl rfl ?_)
              refine vc_y rfl rfl (y_pickf rfl rfl) ?_
              refine vc_end ?_
              refine vq_then ?_
              refine vc_keep [(0, _), (1, _), (4, _), (7, _), (9, _), (91, _)] ⟨rfl, rfl, rfl, rfl, rfl, rfl, trivial⟩ ?_
              refine vc_iff rfl ?_
              refine vc_code_skip ?_
              refine vq_then ?_
              refine vc_keep [(0, _), (1, _), (4, _), (7, _), (9, _)] ⟨rfl, rfl, rfl, rfl, rfl, trivial⟩ ?_
              refine vc_seq ?_
              refine vc_region ?_
              refine vc_y rfl rfl (y_mv rfl) ?_
              refine vc_y rfl rfl (y_mv rfl) ?_
              refine vc_y rfl rfl (y_mv rfl) ?_
              refine vc_y rfl rfl (y_sls (i := i) (j := j) rfl rfl rfl Tryd.underlying9 rfl rfl (by omega) (by omega)) ?_
              refine vc_y rfl rfl (y_mv rfl) ?_
              refine vc_y rfl rfl (y_mv rfl) ?_
              refine vc_y rfl rfl (y_bld (.agg #[_, _, _, _]) [(0, _), (1, _), (2, _), (3, _)] rfl (fun w => by simp [Instr.build, go_sem] <;> repeat' constructor)) ?_
              refine vc_e (e_sts (vs := [_, _, _, _]) st 0 rfl rfl rfl rfl rfl Tryd.sizeOf53 rfl rfl (by first | (right; assumption) | (left; simp)) ?_)
              intro w st; dsimp only [setNth, wr] at st
              refine vc_y rfl rfl (y_as rfl) ?_
              refine vc_y rfl rfl (y_as rfl) ?_
              refine vc_end ?_
              refine vq_then ?_
              refine vc_keep [(4, _), (5, _), (6, _)] ⟨rfl, rfl, rfl, trivial⟩ ?_
              refine vc_ret ?_
              refine vq_block_ret ?_
              refine vq_then_ret ?_
              refine vq_ret3 st (.inl rfl) Tryd.results96 (by exact .cell 0 rfl rfl Tryd.isAgg53 Tryd.sizeOf53) (.tmp rfl) (.tmp rfl) ?_
              refine ⟨_, rfl, ?_⟩
              have hlen : (List.take (j - i) (List.drop i s)).length = j - i := by simp; omega
              refine ⟨?_, st.chg⟩
              rw [numR_tok hi (by assumption) (by assumption), hT, hlen, show i + (j - i) = j by omega]
              first
              | (rw [if_pos (by assumption)]; exact ⟨_, _, _, _, rfl⟩)
              | (rw [if_neg (by rw [hc79]; simp), if_pos ⟨by omega, by assumption⟩]; exact ⟨_, _, _, _, rfl⟩)
              | (rw [if_neg (by rw [hc79]; simp), if_neg (by rintro ⟨h1, h2⟩; first | omega | simp_all)]; rfl)
      · intro hg62
        try simp only [dn] at hg62
        have hT := tw_end (fun h => absurd h (by omega)) he
        refine vc_e (e_skip rfl rfl ?_)
        refine vc_e (e_skip rfl rfl ?_)
        refine vc_e (e_skip rfl rfl ?_)
        refine vc_e (e_skip rfl rfl ?_)
        refine vc_y rfl rfl (y_pickf rfl rfl) ?_
        refine vc_end ?_
        refine vq_then ?_
        refine vc_keep [(0, _), (1, _), (4, _), (7, _), (67, _)] ⟨rfl, rfl, rfl, rfl, rfl, trivial⟩ ?_
        refine vc_iff rfl ?_
        refine vc_exit ?_
        refine vq_then_exit ?_
        refine vq_then_exit ?_
        refine vq_block_exit ?_
        refine vq_then ?_
        refine vc_keep [(0, _), (1, _), (4, _), (7, _)] ⟨rfl, rfl, rfl, rfl, trivial⟩ ?_
        refine vc_seq ?_
        refine vc_region ?_
        refine vc_y rfl rfl (y_mv rfl) ?_
        refine vc_y rfl rfl (y_mv rfl) ?_
        refine vc_y rfl rfl (y_mv rfl) ?_
        refine vc_y rfl rfl (y_sls (i := i) (j := j) rfl rfl rfl Tryd.underlying9 rfl rfl (by omega) (by omega)) ?_
        refine vc_e (e_call [_] rfl rfl Tryd.call105 rfl (rnumber_any _ _ (by simp; omega)) ?_)
        rintro _ w ⟨rfl, rfl⟩
        refine vc_y rfl rfl (y_mv rfl) ?_
        refine vc_y rfl rfl (y_ext rfl rfl) ?_
        refine vc_y rfl rfl (y_ext rfl rfl) ?_
        refine vc_y rfl rfl (y_as rfl) ?_
        refine vc_y rfl rfl (y_as rfl) ?_
        refine vc_end ?_
        refine vq_then ?_
        refine vc_keep [(0, _), (1, _), (4, _), (7, _), (9, _), (10, _)] ⟨rfl, rfl, rfl, rfl, rfl, rfl, trivial⟩ ?_
        refine vc_seq ?_
        refine vc_seq ?_
        refine vc_region ?_
        refine vc_y rfl rfl (y_mv rfl) ?_
        refine vc_y rfl rfl (y_not rfl) ?_
        refine vc_end ?_
        refine vq_then ?_
        refine vc_keep [(0, _), (1, _), (4, _), (7, _), (9, _), (79, _)] ⟨rfl, rfl, rfl, rfl, rfl, rfl, trivial⟩ ?_
        refine vc_ifs rfl ?_ ?_
        · intro hc79
          try simp only [dn] at hc79
          refine vc_seq ?_
          refine vc_region ?_
          refine vc_y rfl rfl (y_bld (.agg #[_, _, _, _]) [] rfl (fun w => by simp [Instr.build, go_sem] <;> repeat' constructor)) ?_
          refine vc_y rfl rfl (y_mv rfl) ?_
          refine vc_e (e_sts (vs := [_, _, _, _]) st 0 rfl rfl rfl rfl rfl Tryd.sizeOf53 rfl rfl (by first | (right; assumption) | (left; simp)) ?_)
          intro w st; dsimp only [setNth, wr] at st
          refine vc_y rfl rfl (y_as rfl) ?_
          refine vc_y rfl rfl (y_as rfl) ?_
          refine vc_end ?_
          refine vq_then ?_
          refine vc_keep [(4, _), (5, _), (6, _)] ⟨rfl, rfl, rfl, trivial⟩ ?_
          refine vc_ret ?_
          refine vq_then_ret ?_
          refine vq_block_ret ?_
          refine vq_then_ret ?_
          refine vq_ret3 st (.inl rfl) Tryd.results96 (by exact .cell 0 rfl rfl Tryd.isAgg53 Tryd.sizeOf53) (.tmp rfl) (.tmp rfl) ?_
          refine ⟨_, rfl, ?_⟩
          have hlen : (List.take (j - i) (List.drop i s)).length = j - i := by simp; omega
          refine ⟨?_, st.chg⟩
          rw [numR_tok hi (by assumption) (by assumption), hT, hlen, show i + (j - i) = j by omega]
          first
          | (rw [if_pos (by assumption)]; exact ⟨_, _, _, _, rfl⟩)
          | (rw [if_neg (by rw [hc79]; simp), if_pos ⟨by omega, by assumption⟩]; exact ⟨_, _, _, _, rfl⟩)
          | (rw [if_neg (by rw [hc79]; simp), if_neg (by rintro ⟨h1, h2⟩; first | omega | simp_all)]; rfl)
        · intro hc79
          try simp only [dn] at hc79
          refine vc_code_skip ?_
          refine vq_then ?_
          refine vc_keep [(0, _), (1, _), (4, _), (7, _), (9, _)] ⟨rfl, rfl, rfl, rfl, rfl, trivial⟩ ?_
          refine vc_seq ?_
          refine vc_seq ?_
          refine vc_region ?_
          refine vc_y rfl rfl (y_mv rfl) ?_
          refine vc_y rfl rfl (y_mv rfl) ?_
          refine vc_y rfl rfl (y_lens rfl Tryd.underlying9) ?_
          refine vc_y rfl rfl (y_lss rfl rfl) ?_
          refine vc_e (e_mvb rfl rfl rfl ?_ ?_)
          · intro hg86
            try simp only [dn] at hg86
            refine vc_y rfl rfl (y_mv rfl) ?_
            refine vc_y rfl rfl (y_mv rfl) ?_
            refine vc_y rfl rfl (y_ixs (k := j) rfl rfl Tryd.underlying9 rfl (by omega)) ?_
            refine vc_e (e_call [_] rfl rfl Tryd.call102 rfl (rletter_any _ _) ?_)
            rintro _ w ⟨rfl, rfl⟩
            refine vc_y rfl rfl (y_pickt rfl rfl) ?_
            refine vc_end ?_
            refine vq_then ?_
            refine vc_keep [(0, _), (1, _), (4, _), (7, _), (9, _), (91, _)] ⟨rfl, rfl, rfl, rfl, rfl, rfl, trivial⟩ ?_
            refine vc_ifs rfl ?_ ?_
            · intro hc91
              try simp only [dn] at hc91
              refine vc_seq ?_
              refine vc_region ?_
              refine vc_y rfl rfl (y_bld (.agg #[_, _, _, _]) [] rfl (fun w => by simp [Instr.build, go_sem] <;> repeat' constructor)) ?_
              refine vc_y rfl rfl (y_mv rfl) ?_
              refine vc_e (e_sts (vs := [_, _, _, _]) st 0 rfl rfl rfl rfl rfl Tryd.sizeOf53 rfl rfl (by first | (right; assumption) | (left; simp)) ?_)
              intro w st; dsimp only [setNth, wr] at st
              refine vc_y rfl rfl (y_as rfl) ?_
              refine vc_y rfl rfl (y_as rfl) ?_
              refine vc_end ?_
              refine vq_then ?_
              refine vc_keep [(4, _), (5, _), (6, _)] ⟨rfl, rfl, rfl, trivial⟩ ?_
              refine vc_ret ?_
              refine vq_then_ret ?_
              refine vq_block_ret ?_
              refine vq_then_ret ?_
              refine vq_ret3 st (.inl rfl) Tryd.results96 (by exact .cell 0 rfl rfl Tryd.isAgg53 Tryd.sizeOf53) (.tmp rfl) (.tmp rfl) ?_
              refine ⟨_, rfl, ?_⟩
              have hlen : (List.take (j - i) (List.drop i s)).length = j - i := by simp; omega
              refine ⟨?_, st.chg⟩
              rw [numR_tok hi (by assumption) (by assumption), hT, hlen, show i + (j - i) = j by omega]
              first
              | (rw [if_pos (by assumption)]; exact ⟨_, _, _, _, rfl⟩)
              | (rw [if_neg (by rw [hc79]; simp), if_pos ⟨by omega, by assumption⟩]; exact ⟨_, _, _, _, rfl⟩)
              | (rw [if_neg (by rw [hc79]; simp), if_neg (by rintro ⟨h1, h2⟩; first | omega | simp_all)]; rfl)
            · intro hc91
              try simp only [dn] at hc91
              refine vc_code_skip ?_
              refine vq_then ?_
              refine vc_keep [(0, _), (1, _), (4, _), (7, _), (9, _)] ⟨rfl, rfl, rfl, rfl, rfl, trivial⟩ ?_
              refine vc_seq ?_
              refine vc_region ?_
              refine vc_y rfl rfl (y_mv rfl) ?_
              refine vc_y rfl rfl (y_mv rfl) ?_
              refine vc_y rfl rfl (y_mv rfl) ?_
              refine vc_y rfl rfl (y_sls (i := i) (j := j) rfl rfl rfl Tryd.underlying9 rfl rfl (by omega) (by omega)) ?_
              refine vc_y rfl rfl (y_mv rfl) ?_
              refine vc_y rfl rfl (y_mv rfl) ?_
              refine vc_y rfl rfl (y_bld (.agg #[_, _, _, _]) [(0, _), (1, _), (2, _), (3, _)] rfl (fun w => by simp [Instr.build, go_sem] <;> repeat' constructor)) ?_
              refine vc_e (e_sts (vs := [_, _, _, _]) st 0 rfl rfl rfl rfl rfl Tryd.sizeOf53 rfl rfl (by first | (right; assumption) | (left; simp)) ?_)
              intro w st; dsimp only [setNth, wr] at st
              refine vc_y rfl rfl (y_as rfl) ?_
              refine vc_y rfl rfl (y_as rfl) ?_
              refine vc_end ?_
              refine vq_then ?_
              refine vc_keep [(4, _), (5, _), (6, _)] ⟨rfl, rfl, rfl, trivial⟩ ?_
              refine vc_ret ?_
              refine vq_block_ret ?_
              refine vq_then_ret ?_
              refine vq_ret3 st (.inl rfl) Tryd.results96 (by exact .cell 0 rfl rfl Tryd.isAgg53 Tryd.sizeOf53) (.tmp rfl) (.tmp rfl) ?_
              refine ⟨_, rfl, ?_⟩
              have hlen : (List.take (j - i) (List.drop i s)).length = j - i := by simp; omega
              refine ⟨?_, st.chg⟩
              rw [numR_tok hi (by assumption) (by assumption), hT, hlen, show i + (j - i) = j by omega]
              first
              | (rw [if_pos (by assumption)]; exact ⟨_, _, _, _, rfl⟩)
              | (rw [if_neg (by rw [hc79]; simp), if_pos ⟨by omega, by assumption⟩]; exact ⟨_, _, _, _, rfl⟩)
              | (rw [if_neg (by rw [hc79]; simp), if_neg (by rintro ⟨h1, h2⟩; first | omega | simp_all)]; rfl)
          · intro hg86
            try simp only [dn] at hg86
            refine vc_e (e_skip rfl rfl ?_)
            refine vc_e (e_skip rfl rfl ?_)
            refine vc_e (e_skip rfl rfl ?_)
            refine vc_e (e_skip rfl rfl ?_)
            refine vc_y rfl rfl (y_pickf rfl rfl) ?_
            refine vc_end ?_
            refine vq_then ?_
            refine vc_keep [(0, _), (1, _), (4, _), (7, _), (9, _), (91, _)] ⟨rfl, rfl, rfl, rfl, rfl, rfl, trivial⟩ ?_
            refine vc_iff rfl ?_
            refine vc_code_skip ?_
            refine vq_then ?_
            refine vc_keep [(0, _), (1, _), (4, _), (7, _), (9, _)] ⟨rfl, rfl, rfl, rfl, rfl, trivial⟩ ?_
            refine vc_seq ?_
            refine vc_region ?_
            refine vc_y rfl rfl (y_mv rfl) ?_
            refine vc_y rfl rfl (y_mv rfl) ?_
            refine vc_y rfl rfl (y_mv rfl) ?_
            refine vc_y rfl rfl (y_sls (i := i) (j := j) rfl rfl rfl Tryd.underlying9 rfl rfl (by omega) (by omega)) ?_
            refine vc_y rfl rfl (y_mv rfl) ?_
            refine vc_y rfl rfl (y_mv rfl) ?_
            refine vc_y rfl rfl (y_bld (.agg #[_, _, _, _]) [(0, _), (1, _), (2, _), (3, _)] rfl (fun w => by simp [Instr.build, go_sem] <;> repeat' constructor)) ?_
            refine vc_e (e_sts (vs := [_, _, _, _]) st 0 rfl rfl rfl rfl rfl Tryd.sizeOf53 rfl rfl (by first | (right; assumption) | (left; simp)) ?_)
            intro w st; dsimp only [setNth, wr] at st
            refine vc_y rfl rfl (y_as rfl) ?_
            refine vc_y rfl rfl (y_as rfl) ?_
            refine vc_end ?_
            refine vq_then ?_
            refine vc_keep [(4, _), (5, _), (6, _)] ⟨rfl, rfl, rfl, trivial⟩ ?_
            refine vc_ret ?_
            refine vq_block_ret ?_
            refine vq_then_ret ?_
            refine vq_ret3 st (.inl rfl) Tryd.results96 (by exact .cell 0 rfl rfl Tryd.isAgg53 Tryd.sizeOf53) (.tmp rfl) (.tmp rfl) ?_
            refine ⟨_, rfl, ?_⟩
            have hlen : (List.take (j - i) (List.drop i s)).length = j - i := by simp; omega
            refine ⟨?_, st.chg⟩
            rw [numR_tok hi (by assumption) (by assumption), hT, hlen, show i + (j - i) = j by omega]
            first
            | (rw [if_pos (by assumption)]; exact ⟨_, _, _, _, rfl⟩)
            | (rw [if_neg (by rw [hc79]; simp), if_pos ⟨by omega, by assumption⟩]; exact ⟨_, _, _, _, rfl⟩)
            | (rw [if_neg (by rw [hc79]; simp), if_neg (by rintro ⟨h1, h2⟩; first | omega | simp_all)]; rfl)
    · intro hc53
      try simp only [dn] at hc53
      refine vc_seq ?_
      refine vc_region ?_
      refine vc_y rfl rfl (y_mv rfl) ?_
      refine vc_y rfl rfl (y_add rfl rfl (by omega : _ = ((i + 2 : Nat) : Int)) (by omega) (by omega)) ?_
      refine vc_y rfl rfl (y_mv rfl) ?_
      refine vc_y rfl rfl (y_lens rfl Tryd.underlying9) ?_
      refine vc_y rfl rfl (y_leq rfl rfl) ?_
      refine vc_e (e_mvb rfl rfl rfl ?_ ?_)
      · intro hg107
        try simp only [dn] at hg107
        refine vc_y rfl rfl (y_mv rfl) ?_
        refine vc_y rfl rfl (y_mv rfl) ?_
        refine vc_y rfl rfl (y_mv rfl) ?_
        refine vc_y rfl rfl (y_add rfl rfl (by omega : _ = ((i + 2 : Nat) : Int)) (by omega) (by omega)) ?_
        refine vc_y rfl rfl (y_sls (i := i) (j := (i + 2)) rfl rfl rfl Tryd.underlying9 rfl rfl (by omega) (by omega)) ?_
        refine vc_e (e_call [_] rfl rfl Tryd.call106 rfl (rsign_any _ _) ?_)
        rintro _ w ⟨rfl, rfl⟩
        refine vc_y rfl rfl (y_pickt rfl rfl) ?_
        refine vc_y rfl rfl (y_as rfl) ?_
        refine vc_end ?_
        refine vq_then ?_
        refine vc_keep [(0, _), (1, _), (4, _), (101, _)] ⟨rfl, rfl, rfl, rfl, trivial⟩ ?_
        refine vc_ifs rfl ?_ ?_
        · intro hc101
          try simp only [dn] at hc101
          refine vc_seq ?_
          refine vc_region ?_
          refine vc_y rfl rfl (y_mv rfl) ?_
          refine vc_y rfl rfl (y_mv rfl) ?_
          refine vc_y rfl rfl (y_mv rfl) ?_
          refine vc_y rfl rfl (y_add rfl rfl (by omega : _ = ((i + 2 : Nat) : Int)) (by omega) (by omega)) ?_
          refine vc_y rfl rfl (y_sls (i := i) (j := (i + 2)) rfl rfl rfl Tryd.underlying9 rfl rfl (by omega) (by omega)) ?_
          refine vc_y rfl rfl (y_mv rfl) ?_
          refine vc_y rfl rfl (y_bld (.agg #[_, _, _, _]) [(0, _), (1, _), (3, _)] rfl (fun w => by simp [Instr.build, go_sem] <;> repeat' constructor)) ?_
          refine vc_e (e_sts (vs := [_, _, _, _]) st 0 rfl rfl rfl rfl rfl Tryd.sizeOf53 rfl rfl (by first | (right; assumption) | (left; simp)) ?_)
          intro w st; dsimp only [setNth, wr] at st
          refine vc_y rfl rfl (y_as rfl) ?_
          refine vc_y rfl rfl (y_as rfl) ?_
          refine vc_end ?_
          refine vq_then ?_
          refine vc_keep [(4, _), (5, _), (6, _)] ⟨rfl, rfl, rfl, trivial⟩ ?_
          refine vc_ret ?_
          refine vq_block_ret ?_
          refine vq_then_ret ?_
          refine vq_ret3 st (.inl rfl) Tryd.results96 (by exact .cell 0 rfl rfl Tryd.isAgg53 Tryd.sizeOf53) (.tmp rfl) (.tmp rfl) ?_
          refine ⟨_, rfl, ?_⟩
          refine ⟨?_, st.chg⟩
          rw [tokAt_sign hi (by assumption) (by assumption)]
          simp only [show i + 2 - i = 2 by omega, show i + 1 - i = 1 by omega] at *
          have h2l : (List.take 2 (List.drop i s)).length = min 2 (s.length - i) := by simp
          have h1l : (List.take 1 (List.drop i s)).length = 1 := by simp; omega
          have e1 : isSign (List.take 1 (List.drop i s)) = isSign1 (List.take 1 (List.drop i s)) := by
            unfold isSign
            cases h : isSign2 (List.take 1 (List.drop i s))
            · rfl
            · have := isSign2_len h; omega
          have e2 : isSign2 (List.take 2 (List.drop i s)) = if i + 2 ≤ s.length then isSign (List.take 2 (List.drop i s)) else false := by
            split
            · unfold isSign
              cases h : isSign1 (List.take 2 (List.drop i s))
              · simp
              · have := isSign1_len h; omega
            · cases h : isSign2 (List.take 2 (List.drop i s))
              · rfl
              · have := isSign2_len h; omega
          first
          | (rw [if_pos (by rw [e2, if_pos (by omega)]; assumption)]; rfl)
          | (rw [if_neg (by rw [e2, if_pos (by omega)]; simp only [*]; simp), if_pos (by rw [← e1]; assumption)]; rfl)
          | (rw [if_neg (by rw [e2, if_neg (by omega)]; simp), if_pos (by rw [← e1]; assumption)]; rfl)
          | (rw [if_neg (by rw [e2, if_pos (by omega)]; simp only [*]; simp), if_neg (by rw [← e1]; simp only [*]; simp)]; exact ⟨_, _, _, _, rfl⟩)
          | (rw [if_neg (by rw [e2, if_neg (by omega)]; simp), if_neg (by rw [← e1]; simp only [*]; simp)]; exact ⟨_, _, _, _, rfl⟩)
        · intro hc101
          try simp only [dn] at hc101
          refine vc_seq ?_
          refine vc_region ?_
          refine vc_y rfl rfl (y_mv rfl) ?_
          refine vc_y rfl rfl (y_mv rfl) ?_
          refine vc_y rfl rfl (y_mv rfl) ?_
          refine vc_y rfl rfl (y_add rfl rfl (by omega : _ = ((i + 1 : Nat) : Int)) (by omega) (by omega)) ?_
          refine vc_y rfl rfl (y_sls (i := i) (j := (i + 1)) rfl rfl rfl Tryd.underlying9 rfl rfl (by omega) (by omega)) ?_
          refine vc_e (e_call [_] rfl rfl Tryd.call106 rfl (rsign_any _ _) ?_)
          rintro _ w ⟨rfl, rfl⟩
          refine vc_y rfl rfl (y_as rfl) ?_
          refine vc_end ?_
          refine vq_then ?_
          refine vc_keep [(0, _), (1, _), (4, _), (122, _)] ⟨rfl, rfl, rfl, rfl, trivial⟩ ?_
          refine vc_ifs rfl ?_ ?_
          · intro hc122
            try simp only [dn] at hc122
            refine vc_seq ?_
            refine vc_region ?_
            refine vc_y rfl rfl (y_mv rfl) ?_
            refine vc_y rfl rfl (y_mv rfl) ?_
            refine vc_y rfl rfl (y_mv rfl) ?_
            refine vc_y rfl rfl (y_add rfl rfl (by omega : _ = ((i + 1 : Nat) : Int)) (by omega) (by omega)) ?_
            refine vc_y rfl rfl (y_sls (i := i) (j := (i + 1)) rfl rfl rfl Tryd.underlying9 rfl rfl (by omega) (by omega)) ?_
            refine vc_y rfl rfl (y_mv rfl) ?_
            refine vc_y rfl rfl (y_bld (.agg #[_, _, _, _]) [(0, _), (1, _), (3, _)] rfl (fun w => by simp [Instr.build, go_sem] <;> repeat' constructor)) ?_
            refine vc_e (e_sts (vs := [_, _, _, _]) st 0 rfl rfl rfl rfl rfl Tryd.sizeOf53 rfl rfl (by first | (right; assumption) | (left; simp)) ?_)
            intro w st; dsimp only [setNth, wr] at st
            refine vc_y rfl rfl (y_as rfl) ?_
            refine vc_y rfl rfl (y_as rfl) ?_
            refine vc_end ?_
            refine vq_then ?_
            refine vc_keep [(4, _), (5, _), (6, _)] ⟨rfl, rfl, rfl, trivial⟩ ?_
            refine vc_ret ?_
            refine vq_block_ret ?_
            refine vq_then_ret ?_
            refine vq_ret3 st (.inl rfl) Tryd.results96 (by exact .cell 0 rfl rfl Tryd.isAgg53 Tryd.sizeOf53) (.tmp rfl) (.tmp rfl) ?_
            refine ⟨_, rfl, ?_⟩
            refine ⟨?_, st.chg⟩
            rw [tokAt_sign hi (by assumption) (by assumption)]
            simp only [show i + 2 - i = 2 by omega, show i + 1 - i = 1 by omega] at *
            have h2l : (List.take 2 (List.drop i s)).length = min 2 (s.length - i) := by simp
            have h1l : (List.take 1 (List.drop i s)).length = 1 := by simp; omega
            have e1 : isSign (List.take 1 (List.drop i s)) = isSign1 (List.take 1 (List.drop i s)) := by
              unfold isSign
              cases h : isSign2 (List.take 1 (List.drop i s))
              · rfl
              · have := isSign2_len h; omega
            have e2 : isSign2 (List.take 2 (List.drop i s)) = if i + 2 ≤ s.length then isSign (List.take 2 (List.drop i s)) else false := by
              split
              · unfold isSign
                cases h : isSign1 (List.take 2 (List.drop i s))
                · simp
                · have := isSign1_len h; omega
              · cases h : isSign2 (List.take 2 (List.drop i s))
                · rfl
                · have := isSign2_len h; omega
            first
            | (rw [if_pos (by rw [e2, if_pos (by omega)]; assumption)]; rfl)
            | (rw [if_neg (by rw [e2, if_pos (by omega)]; simp only [*]; simp), if_pos (by rw [← e1]; assumption)]; rfl)
            | (rw [if_neg (by rw [e2, if_neg (by omega)]; simp), if_pos (by rw [← e1]; assumption)]; rfl)
            | (rw [if_neg (by rw [e2, if_pos (by omega)]; simp only [*]; simp), if_neg (by rw [← e1]; simp only [*]; simp)]; exact ⟨_, _, _, _, rfl⟩)
            | (rw [if_neg (by rw [e2, if_neg (by omega)]; simp), if_neg (by rw [← e1]; simp only [*]; simp)]; exact ⟨_, _, _, _, rfl⟩)
          · intro hc122
            try simp only [dn] at hc122
            refine vc_code_skip ?_
            refine vq_block ?_
            refine vq_then ?_
            refine vc_keep [(1, _), (4, _)] ⟨rfl, rfl, trivial⟩ ?_
            refine vc_seq ?_
            refine vc_region ?_
            refine vc_y rfl rfl (y_bld (.agg #[_, _, _, _]) [] rfl (fun w => by simp [Instr.build, go_sem] <;> repeat' constructor)) ?_
            refine vc_y rfl rfl (y_mv rfl) ?_
            refine vc_e (e_sts (vs := [_, _, _, _]) st 0 rfl rfl rfl rfl rfl Tryd.sizeOf53 rfl rfl (by first | (right; assumption) | (left; simp)) ?_)
            intro w st; dsimp only [setNth, wr] at st
            refine vc_y rfl rfl (y_as rfl) ?_
            refine vc_y rfl rfl (y_as rfl) ?_
            refine vc_end ?_
            refine vq_then ?_
            refine vc_keep [(4, _), (5, _), (6, _)] ⟨rfl, rfl, rfl, trivial⟩ ?_
            refine vc_ret ?_
            refine vq_ret3 st (.inl rfl) Tryd.results96 (by exact .cell 0 rfl rfl Tryd.isAgg53 Tryd.sizeOf53) (.tmp rfl) (.tmp rfl) ?_
            refine ⟨_, rfl, ?_⟩
            refine ⟨?_, st.chg⟩
            rw [tokAt_sign hi (by assumption) (by assumption)]
            simp only [show i + 2 - i = 2 by omega, show i + 1 - i = 1 by omega] at *
            have h2l : (List.take 2 (List.drop i s)).length = min 2 (s.length - i) := by simp
            have h1l : (List.take 1 (List.drop i s)).length = 1 := by simp; omega
            have e1 : isSign (List.take 1 (List.drop i s)) = isSign1 (List.take 1 (List.drop i s)) := by
              unfold isSign
              cases h : isSign2 (List.take 1 (List.drop i s))
              · rfl
              · have := isSign2_len h; omega
            have e2 : isSign2 (List.take 2 (List.drop i s)) = if i + 2 ≤ s.length then isSign (List.take 2 (List.drop i s)) else false := by
              split
              · unfold isSign
                cases h : isSign1 (List.take 2 (List.drop i s))
                · simp
                · have := isSign1_len h; omega
              · cases h : isSign2 (List.take 2 (List.drop i s))
                · rfl
                · have := isSign2_len h; omega
            first
            | (rw [if_pos (by rw [e2, if_pos (by omega)]; assumption)]; rfl)
            | (rw [if_neg (by rw [e2, if_pos (by omega)]; simp only [*]; simp), if_pos (by rw [← e1]; assumption)]; rfl)
            | (rw [if_neg (by rw [e2, if_neg (by omega)]; simp), if_pos (by rw [← e1]; assumption)]; rfl)
            | (rw [if_neg (by rw [e2, if_pos (by omega)]; simp only [*]; simp), if_neg (by rw [← e1]; simp only [*]; simp)]; exact ⟨_, _, _, _, rfl⟩)
            | (rw [if_neg (by rw [e2, if_neg (by omega)]; simp), if_neg (by rw [← e1]; simp only [*]; simp)]; exact ⟨_, _, _, _, rfl⟩)
      · intro hg107
        try simp only [dn] at hg107
        refine vc_e (e_skip rfl rfl ?_)
        refine vc_e (e_skip rfl rfl ?_)
        refine vc_e (e_skip rfl rfl ?_)
        refine vc_e (e_skip rfl rfl ?_)
        refine vc_e (e_skip rfl rfl ?_)
        refine vc_e (e_skip rfl rfl ?_)
        refine vc_y rfl rfl (y_pickf rfl rfl) ?_
        refine vc_y rfl rfl (y_as rfl) ?_
        refine vc_end ?_
        refine vq_then ?_
        refine vc_keep [(0, _), (1, _), (4, _), (101, _)] ⟨rfl, rfl, rfl, rfl, trivial⟩ ?_
        refine vc_iff rfl ?_
        refine vc_seq ?_
        refine vc_region ?_
        refine vc_y rfl rfl (y_mv rfl) ?_
        refine vc_y rfl rfl (y_mv rfl) ?_
        refine vc_y rfl rfl (y_mv rfl) ?_
        refine vc_y rfl rfl (y_add rfl rfl (by omega : _ = ((i + 1 : Nat) : Int)) (by omega) (by omega)) ?_
        refine vc_y rfl rfl (y_sls (i := i) (j := (i + 1)) rfl rfl rfl Tryd.underlying9 rfl rfl (by omega) (by omega)) ?_
        refine vc_e (e_call [_] rfl rfl Tryd.call106 rfl (rsign_any _ _) ?_)
        rintro _ w ⟨rfl, rfl⟩
        refine vc_y rfl rfl (y_as rfl) ?_
        refine vc_end ?_
        refine vq_then ?_
        refine vc_keep [(0, _), (1, _), (4, _), (122, _)] ⟨rfl, rfl, rfl, rfl, trivial⟩ ?_
        refine vc_ifs rfl ?_ ?_
        · intro hc122
          try simp only [dn] at hc122
          refine vc_seq ?_
          refine vc_region ?_
          refine vc_y rfl rfl (y_mv rfl) ?_
          refine vc_y rfl rfl (y_mv rfl) ?_
          refine vc_y rfl rfl (y_mv rfl) ?_
          refine vc_y rfl rfl (y_add rfl rfl (by omega : _ = ((i + 1 : Nat) : Int)) (by omega) (by omega)) ?_
          refine vc_y rfl rfl (y_sls (i := i) (j := (i + 1)) rfl rfl rfl Tryd.underlying9 rfl rfl (by omega) (by omega)) ?_
          refine vc_y rfl rfl (y_mv rfl) ?_
          refine vc_y rfl rfl (y_bld (.agg #[_, _, _, _]) [(0, _), (1, _), (3, _)] rfl (fun w => by simp [Instr.build, go_sem] <;> repeat' constructor)) ?_
          refine vc_e (e_sts (vs := [_, _, _, _]) st 0 rfl rfl rfl rfl rfl Tryd.sizeOf53 rfl rfl (by first | (right; assumption) | (left; simp)) ?_)
          intro w st; dsimp only [setNth, wr] at st
          refine vc_y rfl rfl (y_as rfl) ?_
          refine vc_y rfl rfl (y_as rfl) ?_
          refine vc_end ?_
          refine vq_then ?_
          refine vc_keep [(4, _), (5, _), (6, _)] ⟨rfl, rfl, rfl, trivial⟩ ?_
          refine vc_ret ?_
          refine vq_block_ret ?_
          refine vq_then_ret ?_
          refine vq_ret3 st (.inl rfl) Tryd.results96 (by exact .cell 0 rfl rfl Tryd.isAgg53 Tryd.sizeOf53) (.tmp rfl) (.tmp rfl) ?_
          refine ⟨_, rfl, ?_⟩
          refine ⟨?_, st.chg⟩
          rw [tokAt_sign hi (by assumption) (by assumption)]
          simp only [show i + 2 - i = 2 by omega, show i + 1 - i = 1 by omega] at *
          have h2l : (List.take 2 (List.drop i s)).length = min 2 (s.length - i) := by simp
          have h1l : (List.take 1 (List.drop i s)).length = 1 := by simp; omega
          have e1 : isSign (List.take 1 (List.drop i s)) = isSign1 (List.take 1 (List.drop i s)) := by
            unfold isSign
            cases h : isSign2 (List.take 1 (List.drop i s))
            · rfl
            · have := isSign2_len h; omega
          have e2 : isSign2 (List.take 2 (List.drop i s)) = if i + 2 ≤ s.length then isSign (List.take 2 (List.drop i s)) else false := by
            split
            · unfold isSign
              cases h : isSign1 (List.take 2 (List.drop i s))
              · simp
              · have := isSign1_len h; omega
            · cases h : isSign2 (List.take 2 (List.drop i s))
              · rfl
              · have := isSign2_len h; omega
          first
          | (rw [if_pos (by rw [e2, if_pos (by omega)]; assumption)]; rfl)
          | (rw [if_neg (by rw [e2, if_pos (by omega)]; simp only [*]; simp), if_pos (by rw [← e1]; assumption)]; rfl)
          | (rw [if_neg (by rw [e2, if_neg (by omega)]; simp), if_pos (by rw [← e1]; assumption)]; rfl)
          | (rw [if_neg (by rw [e2, if_pos (by omega)]; simp only [*]; simp), if_neg (by rw [← e1]; simp only [*]; simp)]; exact ⟨_, _, _, _, rfl⟩)
          | (rw [if_neg (by rw [e2, if_neg (by omega)]; simp), if_neg (by rw [← e1]; simp only [*]; simp)]; exact ⟨_, _, _, _, rfl⟩)
        · intro hc122
          try simp only [dn] at hc122
          refine vc_code_skip ?_
          refine vq_block ?_
          refine vq_then ?_
          refine vc_keep [(1, _), (4, _)] ⟨rfl, rfl, trivial⟩ ?_
          refine vc_seq ?_
          refine vc_region ?_
          refine vc_y rfl rfl (y_bld (.agg #[_, _, _, _]) [] rfl (fun w => by simp [Instr.build, go_sem] <;> repeat' constructor)) ?_
          refine vc_y rfl rfl (y_mv rfl) ?_
          refine vc_e (e_sts (vs := [_, _, _, _]) st 0 rfl rfl rfl rfl rfl Tryd.sizeOf53 rfl rfl (by first | (right; assumption) | (left; simp)) ?_)
          intro w st; dsimp only [setNth, wr] at st
          refine vc_y rfl rfl (y_as rfl) ?_
          refine vc_y rfl rfl (y_as rfl) ?_
          refine vc_end ?_
          refine vq_then ?_
          refine vc_keep [(4, _), (5, _), (6, _)] ⟨rfl, rfl, rfl, trivial⟩ ?_
          refine vc_ret ?_
          refine vq_ret3 st (.inl rfl) Tryd.results96 (by exact .cell 0 rfl rfl Tryd.isAgg53 Tryd.sizeOf53) (.tmp rfl) (.tmp rfl) ?_
          refine ⟨_, rfl, ?_⟩
          refine ⟨?_, st.chg⟩
          rw [tokAt_sign hi (by assumption) (by assumption)]
          simp only [show i + 2 - i = 2 by omega, show i + 1 - i = 1 by omega] at *
          have h2l : (List.take 2 (List.drop i s)).length = min 2 (s.length - i) := by simp
          have h1l : (List.take 1 (List.drop i s)).length = 1 := by simp; omega
          have e1 : isSign (List.take 1 (List.drop i s)) = isSign1 (List.take 1 (List.drop i s)) := by
            unfold isSign
            cases h : isSign2 (List.take 1 (List.drop i s))
            · rfl
            · have := isSign2_len h; omega
          have e2 : isSign2 (List.take 2 (List.drop i s)) = if i + 2 ≤ s.length then isSign (List.take 2 (List.drop i s)) else false := by
            split
            · unfold isSign
              cases h : isSign1 (List.take 2 (List.drop i s))
              · simp
              · have := isSign1_len h; omega
            · cases h : isSign2 (List.take 2 (List.drop i s))
              · rfl
              · have := isSign2_len h; omega
          first
          | (rw [if_pos (by rw [e2, if_pos (by omega)]; assumption)]; rfl)
          | (rw [if_neg (by rw [e2, if_pos (by omega)]; simp only [*]; simp), if_pos (by rw [← e1]; assumption)]; rfl)
          | (rw [if_neg (by rw [e2, if_neg (by omega)]; simp), if_pos (by rw [← e1]; assumption)]; rfl)
          | (rw [if_neg (by rw [e2, if_pos (by omega)]; simp only [*]; simp), if_neg (by rw [← e1]; simp only [*]; simp)]; exact ⟨_, _, _, _, rfl⟩)
          | (rw [if_neg (by rw [e2, if_neg (by omega)]; simp), if_neg (by rw [← e1]; simp only [*]; simp)]; exact ⟨_, _, _, _, rfl⟩)

end Go.Proofs.YtggnfanphcaamaaDoor


namespace Go.Proofs.YtggnfanphcaamaaDoor
open Go.ChangeShapes Go.WideShapes Go.ChangeAt Go.RowKit
open Go.ChangeMaps (open_string shut_string)
open Sx LexS
set_option linter.unusedVariables false
set_option linter.unusedSimpArgs false
/-- a token as the memory holds it -/
structure TV where
  k : Int
  t : List UInt8
  wd : Int
  a : Int
def tv0 : TV := ⟨0, [], 0, 0⟩
/-- a row of tokens that can be read -/
def IsToks (w : World) (oa : Option Addr) (A : List TV) : Prop := A = [] ∨ ∃ g off, oa = some ⟨g, off, none⟩ ∧ ∀ j, j < A.length →
  w.cell? ⟨g, off + j * 4, none⟩ = some (.int .u8 (A.getD j tv0).k) ∧ w.cell? ⟨g, off + j * 4 + 1, none⟩ = some (str (A.getD j tv0).t) ∧
  w.cell? ⟨g, off + j * 4 + 2, none⟩ = some (.int .i64 (A.getD j tv0).wd) ∧ w.cell? ⟨g, off + j * 4 + 3, none⟩ = some (.int .i64 (A.getD j tv0).a)
theorem IsToks.kept {w w' : World} {M : List Nat} {oa : Option Addr} {A : List TV} (h : IsToks w oa A) (c : Chg [] w w') : IsToks w' oa A :=
  h.imp id fun ⟨g, off, e, hc⟩ => ⟨g, off, e, fun j hj => ⟨c.cell (hc j hj).1 (by simp), c.cell (hc j hj).2.1 (by simp), c.cell (hc j hj).2.2.1 (by simp), c.cell (hc j hj).2.2.2 (by simp)⟩⟩
def EqT (p : Bool) (x y : TV) : Prop := x.k = y.k ∧ x.t = y.t ∧ x.wd = y.wd ∧ (p = true → x.a = y.a)
def SameP (p : Bool) (A B : List TV) : Prop := A.length = B.length ∧ ∀ j, j < A.length → EqT p (A.getD j tv0) (B.getD j tv0)
theorem SameP.refl (p : Bool) (A : List TV) : SameP p A A := ⟨rfl, fun j _ => ⟨rfl, rfl, rfl, fun _ => rfl⟩⟩
/-- one token of the document's, its parts named -/
theorem one_flat {res : TokR} {v : Value} (h : OnePost res v) : ∃ k t wd a rule p, v = .tuple [.agg (tok4 k t wd a).toArray, .int .i64 rule, .int .i64 p].toArray ∧
    ((rule = 0 ∧ p = 0 ∧ ∃ x : Tok, res = .tok x ∧ k = x.kind ∧ t = x.text ∧ wd = x.word ∧ a = x.at_) ∨ ∃ r q : Nat, res = .bad r q ∧ rule = r ∧ p = q) := by
  cases res with
  | tok x => exact ⟨_, _, _, _, _, _, h, .inl ⟨rfl, rfl, x, rfl, rfl, rfl, rfl, rfl⟩⟩
  | bad r q => obtain ⟨k, t, wd, a, hv⟩ := h; exact ⟨k, t, wd, a, _, _, hv, .inr ⟨r, q, rfl, rfl, rfl⟩⟩
def fRule (x : Option (Nat × Nat)) : Nat := match x with | none => 0 | some (r, _) => r
def fAt (x : Option (Nat × Nat)) : Nat := match x with | none => 0 | some (_, p) => p
def FrontPost (s : List UInt8) (w : World) (v : Value) (w' : World) : Prop :=
  Chg [] w w' ∧ ∃ oa cap, v = .tuple [.slice oa (front s).1.length cap, .int .i64 (fRule (front s).2 : Int), .int .i64 (fAt (front s).2 : Int)].toArray ∧
    w'.ownsRow w.heap.size 53 4 (.slice oa (front s).1.length cap) (front s).1.length (toksL (front s).1)

set_option maxHeartbeats 1000000 in
theorem rfront_any (s : List UInt8) (w : World) (hs : s.length ≤ 3000000000000) : Ret Tryd.prog 82 [str s] w (FrontPost s w) := by
  refine ret_of [_] Tryd.func82 rfl Tryd.ntmps82 rfl ?_
  have st := St.init w []
  refine vc_seq ?_
  refine vc_region ?_
  refine vc_y rfl rfl (y_as rfl) ?_
  refine vc_y rfl rfl (y_as rfl) ?_
  refine vc_y rfl rfl (y_as rfl) ?_
  refine vc_end ?_
  refine vq_then ?_
  refine vc_keep [(0, _)] ⟨rfl, trivial⟩ ?_
  refine vc_seq ?_
  refine vc_region ?_
  refine vc_y rfl rfl (y_as rfl) ?_
  refine vc_end ?_
  refine vq_then ?_
  refine vc_keep [(0, _), (5, _)] ⟨rfl, rfl, trivial⟩ ?_
  refine vc_seq ?_
  refine vc_seq ?_
  refine vc_region ?_
  refine vc_y rfl rfl (y_mv rfl) ?_
  refine vc_e (e_call [_, _] rfl rfl Tryd.call95 rfl (rskip_any s 0 _ (by omega) (by omega)) ?_)
  rintro _ w ⟨rfl, rfl⟩
  replace st := st.ownNil 53 4
  refine vc_y rfl rfl (y_as rfl) ?_
  refine vc_end ?_
  refine vq_then ?_
  refine vc_keep [(0, _), (5, _), (6, _)] ⟨rfl, rfl, rfl, trivial⟩ ?_
  refine vc_block ?_
  refine vc_loop (w0 := _) (M := _) (fun (x : List Tok × Nat × Option Addr × Nat) => [(0, str s), (5, .slice x.2.2.1 x.1.length x.2.2.2), (6, .int .i64 ((x.2.1 + skip (s.drop x.2.1) : Nat) : Int))]) (fun x => [.own (.slice x.2.2.1 x.1.length x.2.2.2) 53 4 x.1.length (toksL x.1)]) (fun x _ => x.2.1 ≤ s.length ∧ x.1.length ≤ x.2.1 ∧ (front s).1 = x.1 ++ (scanA (s.drop x.2.1) x.2.1).1 ∧ (front s).2 = (scanA (s.drop x.2.1) x.2.1).2) (fun x => s.length - x.2.1) ([], 0, none, 0) ⟨rfl, rfl, rfl, trivial⟩ st ⟨by simp, by simp, by simp [front_eq], by simp [front_eq]⟩ ?_
  rintro ⟨l, i, oa, cap⟩ w ⟨hi, hli, hf1, hf2⟩ st
  dsimp only at *
  refine vc_seq ?_
  refine vc_seq ?_
  refine vc_region ?_
  refine vc_y rfl rfl (y_mv rfl) ?_
  refine vc_y rfl rfl (y_mv rfl) ?_
  refine vc_y rfl rfl (y_lens rfl Tryd.underlying9) ?_
  refine vc_y rfl rfl (y_lss rfl rfl) ?_
  refine vc_end ?_
  refine vq_then ?_
  refine vc_keep [(0, _), (5, _), (6, _), (15, _)] ⟨rfl, rfl, rfl, rfl, trivial⟩ ?_
  refine vc_ifs rfl ?_ ?_
  · intro hc15
    try simp only [decide_eq_true_eq, decide_eq_false_iff_not, Bool.not_eq_true', Bool.not_eq_false', Bool.not_eq_true, Bool.not_eq_false, Int.not_lt, Int.not_le, Nat.not_lt, Nat.not_le, Bool.not_true, Bool.not_false, Bool.true_eq_false, Bool.false_eq_true] at hc15
    refine vc_code_skip ?_
    refine vq_then ?_
    refine vc_keep [(0, _), (5, _), (6, _)] ⟨rfl, rfl, rfl, trivial⟩ ?_
    refine vc_seq ?_
    refine vc_block ?_
    refine vc_seq ?_
    refine vc_region ?_
    refine vc_y rfl rfl (y_mv rfl) ?_
    refine vc_y rfl rfl (y_mv rfl) ?_
    refine vc_e (e_call [_, _] rfl rfl Tryd.call96 rfl (rone_any s (i + skip (s.drop i)) _ (by omega) (by omega)) ?_)
    rintro _ w ⟨hp, cw⟩
    obtain ⟨k, t, wd, a, rule, p, rfl, hrel⟩ := one_flat hp
    replace st := st.call0 cw
    refine vc_y rfl rfl (y_mv rfl) ?_
    refine vc_y rfl rfl (y_ext rfl rfl) ?_
    refine vc_y rfl rfl (y_ext rfl rfl) ?_
    refine vc_y rfl rfl (y_ext rfl rfl) ?_
    refine vc_e (e_al (l := [_, _, _, _]) st rfl rfl Tryd.zeroValue53 rfl ?_)
    intro b7 w hb7 st
    first
    | refine vc_e (e_sts (vs := [_, _, _, _]) st 0 rfl rfl rfl rfl rfl Tryd.sizeOf53 rfl rfl (by first | (right; assumption) | (left; simp)) ?_)
    | refine vc_e (e_sts (vs := [_, _, _, _]) st 1 rfl rfl rfl rfl rfl Tryd.sizeOf53 rfl rfl (by first | (right; assumption) | (left; simp)) ?_)
    | refine vc_e (e_sts (vs := [_, _, _, _]) st 2 rfl rfl rfl rfl rfl Tryd.sizeOf53 rfl rfl (by first | (right; assumption) | (left; simp)) ?_)
    | refine vc_e (e_sts (vs := [_, _, _, _]) st 3 rfl rfl rfl rfl rfl Tryd.sizeOf53 rfl rfl (by first | (right; assumption) | (left; simp)) ?_)
    intro w st; dsimp only [setNth, wr] at st
    refine vc_y rfl rfl (y_as rfl) ?_
    refine vc_y rfl rfl (y_as rfl) ?_
    refine vc_end ?_
    refine vq_then ?_
    refine vc_keep [(0, _), (5, _), (6, _), (7, _), (8, _), (9, _)] ⟨rfl, rfl, rfl, rfl, rfl, rfl, trivial⟩ ?_
    refine vc_seq ?_
    refine vc_seq ?_
    refine vc_region ?_
    refine vc_y rfl rfl (y_mv rfl) ?_
    refine vc_y rfl rfl (y_gtr rfl rfl) ?_
    refine vc_end ?_
    refine vq_then ?_
    refine vc_keep [(0, _), (5, _), (6, _), (7, _), (8, _), (9, _), (27, _)] ⟨rfl, rfl, rfl, rfl, rfl, rfl, rfl, trivial⟩ ?_
    refine vc_ifs rfl ?_ ?_
    · intro hc27
      try simp only [decide_eq_true_eq, decide_eq_false_iff_not, Bool.not_eq_true', Bool.not_eq_false', Bool.not_eq_true, Bool.not_eq_false, Int.not_lt, Int.not_le, Nat.not_lt, Nat.not_le, Bool.not_true, Bool.not_false, Bool.true_eq_false, Bool.false_eq_true] at hc27
      refine vc_seq ?_
      refine vc_region ?_
      refine vc_y rfl rfl (y_mv rfl) ?_
      refine vc_y rfl rfl (y_mv rfl) ?_
      refine vc_y rfl rfl (y_mv rfl) ?_
      refine vc_y rfl rfl (y_as rfl) ?_
      refine vc_y rfl rfl (y_as rfl) ?_
      refine vc_y rfl rfl (y_as rfl) ?_
      refine vc_end ?_
      refine vq_then ?_
      refine vc_keep [(2, _), (3, _), (4, _)] ⟨rfl, rfl, rfl, trivial⟩ ?_
      refine vc_ret ?_
      refine vq_then_ret ?_
      refine vq_block_ret ?_
      refine vq_then_ret ?_
      refine vq_then_ret ?_
      refine vq_block_ret ?_
      refine vq_then_ret ?_
      refine vq_ret3 st (.inl rfl) Tryd.results82 (.tmp rfl) (.tmp rfl) (.tmp rfl) ?_
      refine ⟨_, rfl, ?_⟩
      obtain ⟨r, q, hx, rfl, rfl⟩ : ∃ r q : Nat, tokAt (s.drop (i + skip (s.drop i))) (i + skip (s.drop i)) = .bad r q ∧ rule = r ∧ p = q := by
        rcases hrel with ⟨h, _⟩ | h
        · omega
        · exact h
      have hsc := scanA_bad (r := s.drop i) (i := i) (by simp; omega) (by rw [List.drop_drop]; exact hx)
      have e1 : (front s).1 = l := by rw [hf1, hsc]; simp
      have e2 : (front s).2 = some (r, q) := by rw [hf2, hsc]
      refine ⟨st.chg, oa, cap, ?_, ?_⟩
      · rw [e1, e2]; rfl
      · rw [e1]; exact st.res (i := 1) rfl
    · intro hc27
      try simp only [decide_eq_true_eq, decide_eq_false_iff_not, Bool.not_eq_true', Bool.not_eq_false', Bool.not_eq_true, Bool.not_eq_false, Int.not_lt, Int.not_le, Nat.not_lt, Nat.not_le, Bool.not_true, Bool.not_false, Bool.true_eq_false, Bool.false_eq_true] at hc27
      obtain ⟨rfl, rfl, x, hx, rfl, rfl, rfl, rfl⟩ : rule = 0 ∧ p = 0 ∧ ∃ x : Tok, tokAt (s.drop (i + skip (s.drop i))) (i + skip (s.drop i)) = .tok x ∧ k = x.kind ∧ t = x.text ∧ wd = x.word ∧ a = x.at_ := by
        rcases hrel with h | ⟨r, q, hx, rfl, rfl⟩
        · exact h
        · have := bad_rule hx; omega
      have hx1 := tok_len hx
      have hxl : x.text.length ≤ s.length - (i + skip (List.drop i s)) := by have h := congrArg List.length hx1.2.1; simp at h; omega
      have hsc := scanA_tok (r := s.drop i) (i := i) (by simp; omega) (by rw [List.drop_drop]; exact hx)
      rw [List.drop_drop, ← Nat.add_assoc] at hsc
      refine vc_code_skip ?_
      refine vq_then ?_
      refine vc_keep [(0, _), (5, _), (6, _), (7, _)] ⟨rfl, rfl, rfl, rfl, trivial⟩ ?_
      refine vc_seq ?_
      refine vc_region ?_
      refine vc_y rfl rfl (y_mv rfl) ?_
      refine vc_y rfl rfl ((by first | exact y_lda (vs := [_, _, _, _]) st 0 rfl Tryd.isAgg53 Tryd.sizeOf53 rfl rfl | exact y_lda (vs := [_, _, _, _]) st 1 rfl Tryd.isAgg53 Tryd.sizeOf53 rfl rfl | exact y_lda (vs := [_, _, _, _]) st 2 rfl Tryd.isAgg53 Tryd.sizeOf53 rfl rfl | exact y_lda (vs := [_, _, _, _]) st 3 rfl Tryd.isAgg53 Tryd.sizeOf53 rfl rfl)) ?_
      refine vc_e (e_bs1 (l := [_, _, _, _]) st rfl rfl rfl rfl Tryd.underlying47 Tryd.sizeOf53 rfl rfl rfl Tryd.zeroValue53 ?_)
      intro b33 w hb33 st
      refine vc_e (e_app (bytes := 40) st 2 0 rfl rfl rfl rfl rfl rfl Tryd.underlying47 Tryd.info53 rfl rfl rfl rfl rfl (by simp) rfl rfl (by unfold maxLen; omega) (by omega) ?_)
      intro oa34 cap34 w st; dsimp only [setNth] at st
      refine vc_y rfl rfl (y_as rfl) ?_
      refine vc_end ?_
      refine vq_then ?_
      refine vc_keep [(0, _), (5, _), (6, _), (7, _)] ⟨rfl, rfl, rfl, rfl, trivial⟩ ?_
      refine vc_region ?_
      refine vc_y rfl rfl (y_mv rfl) ?_
      refine vc_y rfl rfl ((by first | exact y_faz (k := 1) rfl Tryd.underlying53 rfl rfl Tryd.sizeOf9 rfl | exact y_fa (k := 1) rfl Tryd.underlying53 rfl rfl Tryd.sizeOf9 rfl)) ?_
      refine vc_y rfl rfl ((by first | exact y_ld st 0 rfl Tryd.isAgg9 rfl rfl | exact y_ld st 1 rfl Tryd.isAgg9 rfl rfl | exact y_ld st 2 rfl Tryd.isAgg9 rfl rfl | exact y_ld st 3 rfl Tryd.isAgg9 rfl rfl)) ?_
      refine vc_y rfl rfl (y_lens rfl Tryd.underlying9) ?_
      refine vc_y rfl rfl (y_add rfl rfl (by omega : _ = ((i + skip (List.drop i s) + x.text.length : Nat) : Int)) (by omega) (by omega)) ?_
      refine vc_y rfl rfl (y_as rfl) ?_
      refine vc_end ?_
      refine vq_block ?_
      refine vq_then ?_
      refine vc_keep [(0, _), (5, _), (6, _)] ⟨rfl, rfl, rfl, trivial⟩ ?_
      refine vc_region ?_
      refine vc_y rfl rfl (y_mv rfl) ?_
      refine vc_y rfl rfl (y_mv rfl) ?_
      refine vc_e (e_call [_, _] rfl rfl Tryd.call95 rfl (rskip_any s (i + skip (List.drop i s) + x.text.length) _ (by omega) (by omega)) ?_)
      rintro _ w ⟨rfl, rfl⟩
      refine vc_y rfl rfl (y_as rfl) ?_
      refine vc_end ?_
      refine vq_again (l ++ [x], i + skip (List.drop i s) + x.text.length, oa34, cap34) ⟨rfl, by simp only [List.length_append, List.length_cons, List.length_nil]; rfl, rfl, trivial⟩ ?_ ⟨by dsimp only; omega, by simp; omega, ?_, ?_⟩ (by dsimp only; omega)
      · simp only [List.length_append, List.length_cons, List.length_nil, toksL_snoc]
        exact st.drop (by repeat (first | exact List.Sublist.slnil | apply List.Sublist.cons_cons | apply List.Sublist.cons))
      · rw [hf1, hsc]; simp
      · rw [hf2, hsc]
  · intro hc15
    try simp only [decide_eq_true_eq, decide_eq_false_iff_not, Bool.not_eq_true', Bool.not_eq_false', Bool.not_eq_true, Bool.not_eq_false, Int.not_lt, Int.not_le, Nat.not_lt, Nat.not_le, Bool.not_true, Bool.not_false, Bool.true_eq_false, Bool.false_eq_true] at hc15
    refine vc_exit ?_
    refine vq_then_exit ?_
    refine vq_then_exit ?_
    refine vq_block_exit ?_
    refine vq_then ?_
    refine vc_keep [(5, _)] ⟨rfl, trivial⟩ ?_
    refine vc_seq ?_
    refine vc_region ?_
    refine vc_y rfl rfl (y_mv rfl) ?_
    refine vc_y rfl rfl (y_as rfl) ?_
    refine vc_y rfl rfl (y_as rfl) ?_
    refine vc_y rfl rfl (y_as rfl) ?_
    refine vc_end ?_
    refine vq_then ?_
    refine vc_keep [(2, _), (3, _), (4, _)] ⟨rfl, rfl, rfl, trivial⟩ ?_
    refine vc_ret ?_
    refine vq_ret3 st (.inl rfl) Tryd.results82 (.tmp rfl) (.tmp rfl) (.tmp rfl) ?_
    refine ⟨_, rfl, ?_⟩
    have hsc := scanA_end (r := s.drop i) (i := i) (by simp; omega)
    have e1 : (front s).1 = l := by rw [hf1, hsc]; simp
    have e2 : (front s).2 = none := by rw [hf2, hsc]
    refine ⟨st.chg, oa, cap, ?_, ?_⟩
    · rw [e1, e2]; rfl
    · rw [e1]; exact st.res (i := 0) rfl

theorem frontFault {s : List UInt8} {r p : Nat} (h : (front s).2 = some (r, p)) : 1 ≤ r := by
  have key : ∀ (n : Nat) (t : List UInt8) (i : Nat), t.length < n → (scanA t i).2 = some (r, p) → 1 ≤ r := by
    intro n
    induction n with
    | zero => intro t i h; omega
    | succ n ih =>
      intro t i hn h
      rcases Nat.lt_or_ge (skip t) t.length with hk | hk
      · cases hx : tokAt (t.drop (skip t)) (i + skip t) with
        | bad rule q => rw [scanA_bad hk hx] at h; have := bad_rule hx; simp at h; omega
        | tok x => rw [scanA_tok hk hx] at h; have := (tok_len hx).1; exact ih _ _ (by simp; omega) h
      · rw [scanA_end hk] at h; simp at h
  exact key _ s 0 (Nat.lt_succ_self _) h

set_option maxHeartbeats 1000000 in
theorem rscan_any (s : List UInt8) (w : World) : Ret Tryd.prog 62 [str s] w (ScanPost s w) := by
  refine ret_of [_] Tryd.func62 rfl Tryd.ntmps62 rfl ?_
  have st := St.init w []
  refine vc_seq ?_
  refine vc_region ?_
  refine vc_y rfl rfl (y_as rfl) ?_
  refine vc_y rfl rfl (y_as rfl) ?_
  refine vc_e (e_al (l := [_, _]) st rfl rfl Tryd.zeroValue29 rfl ?_)
  intro b4 w hb4 st
  refine vc_end ?_
  refine vq_then ?_
  refine vc_keep [(0, _), (4, _)] ⟨rfl, rfl, trivial⟩ ?_
  refine vc_seq ?_
  refine vc_seq ?_
  refine vc_region ?_
  refine vc_y rfl rfl (y_mv rfl) ?_
  refine vc_y rfl rfl (y_lens rfl Tryd.underlying9) ?_
  refine vc_y rfl rfl (y_gtr rfl rfl) ?_
  refine vc_end ?_
  refine vq_then ?_
  refine vc_keep [(0, _), (4, _), (10, _)] ⟨rfl, rfl, rfl, trivial⟩ ?_
  refine vc_ifs rfl ?_ ?_
  · intro hc10
    try simp only [decide_eq_true_eq, decide_eq_false_iff_not, Bool.not_eq_true', Bool.not_eq_false', Bool.not_eq_true, Bool.not_eq_false, Int.not_lt, Int.not_le, Nat.not_lt, Nat.not_le, Bool.not_true, Bool.not_false, Bool.true_eq_false, Bool.false_eq_true] at hc10
    refine vc_seq ?_
    refine vc_region ?_
    refine vc_y rfl rfl (y_bld (.agg #[_, _]) [] rfl (fun w => by simp [Instr.build, go_sem] <;> repeat' constructor)) ?_
    refine vc_y rfl rfl (y_as rfl) ?_
    refine vc_y rfl rfl (y_as rfl) ?_
    first
    | refine vc_e (e_sts (vs := [_, _]) st 0 rfl rfl rfl rfl rfl Tryd.sizeOf29 rfl rfl (by first | (right; assumption) | (left; simp)) ?_)
    | refine vc_e (e_sts (vs := [_, _]) st 1 rfl rfl rfl rfl rfl Tryd.sizeOf29 rfl rfl (by first | (right; assumption) | (left; simp)) ?_)
    | refine vc_e (e_sts (vs := [_, _]) st 2 rfl rfl rfl rfl rfl Tryd.sizeOf29 rfl rfl (by first | (right; assumption) | (left; simp)) ?_)
    | refine vc_e (e_sts (vs := [_, _]) st 3 rfl rfl rfl rfl rfl Tryd.sizeOf29 rfl rfl (by first | (right; assumption) | (left; simp)) ?_)
    intro w st; dsimp only [setNth, wr] at st
    refine vc_end ?_
    refine vq_then ?_
    refine vc_keep [(2, _), (3, _), (4, _)] ⟨rfl, rfl, rfl, trivial⟩ ?_
    refine vc_ret ?_
    refine vq_then_ret ?_
    refine vq_ret3 st (.inl rfl) Tryd.results62 (.tmp rfl) (.tmp rfl) (by first | exact .cell 0 rfl rfl Tryd.isAgg29 Tryd.sizeOf29 | exact .cell 1 rfl rfl Tryd.isAgg29 Tryd.sizeOf29 | exact .cell 2 rfl rfl Tryd.isAgg29 Tryd.sizeOf29 | exact .cell 3 rfl rfl Tryd.isAgg29 Tryd.sizeOf29) ?_
    refine ⟨_, rfl, ?_⟩
    have e : scanRes s = ([], 4, 0, 0) := by unfold scanRes; rw [if_pos (by omega)]
    refine ⟨st.chg, none, 0, ?_, ?_⟩
    · rw [e]; rfl
    · rw [e]; exact World.ownsRow_nil _ _ _ _
  · intro hc10
    try simp only [decide_eq_true_eq, decide_eq_false_iff_not, Bool.not_eq_true', Bool.not_eq_false', Bool.not_eq_true, Bool.not_eq_false, Int.not_lt, Int.not_le, Nat.not_lt, Nat.not_le, Bool.not_true, Bool.not_false, Bool.true_eq_false, Bool.false_eq_true] at hc10
    refine vc_code_skip ?_
    refine vq_then ?_
    refine vc_keep [(0, _), (4, _)] ⟨rfl, rfl, trivial⟩ ?_
    refine vc_seq ?_
    refine vc_region ?_
    refine vc_y rfl rfl (y_mv rfl) ?_
    refine vc_e (e_call [_] rfl rfl Tryd.call82 rfl (rfront_any s _ (by omega)) ?_)
    rintro _ w ⟨cw, oa, cap, rfl, how⟩
    replace st := st.pushOwn cw how
    refine vc_y rfl rfl (y_mv rfl) ?_
    refine vc_y rfl rfl (y_ext rfl rfl) ?_
    refine vc_y rfl rfl (y_ext rfl rfl) ?_
    refine vc_y rfl rfl (y_ext rfl rfl) ?_
    refine vc_y rfl rfl (y_as rfl) ?_
    refine vc_y rfl rfl (y_as rfl) ?_
    refine vc_y rfl rfl (y_as rfl) ?_
    refine vc_end ?_
    refine vq_then ?_
    refine vc_keep [(4, _), (5, _), (6, _), (7, _)] ⟨rfl, rfl, rfl, rfl, trivial⟩ ?_
    refine vc_seq ?_
    refine vc_seq ?_
    refine vc_region ?_
    refine vc_y rfl rfl (y_mv rfl) ?_
    refine vc_y rfl rfl (y_gtr rfl rfl) ?_
    refine vc_end ?_
    refine vq_then ?_
    refine vc_keep [(4, _), (5, _), (6, _), (7, _), (19, _)] ⟨rfl, rfl, rfl, rfl, rfl, trivial⟩ ?_
    refine vc_ifs rfl ?_ ?_
    · intro hc19
      try simp only [decide_eq_true_eq, decide_eq_false_iff_not, Bool.not_eq_true', Bool.not_eq_false', Bool.not_eq_true, Bool.not_eq_false, Int.not_lt, Int.not_le, Nat.not_lt, Nat.not_le, Bool.not_true, Bool.not_false, Bool.true_eq_false, Bool.false_eq_true] at hc19
      refine vc_seq ?_
      refine vc_region ?_
      refine vc_y rfl rfl (y_mv rfl) ?_
      refine vc_y rfl rfl (y_mv rfl) ?_
      refine vc_y rfl rfl (y_bld (.agg #[_, _]) [(0, _), (1, _)] rfl (fun w => by simp [Instr.build, go_sem] <;> repeat' constructor)) ?_
      refine vc_y rfl rfl (y_as rfl) ?_
      refine vc_y rfl rfl (y_as rfl) ?_
      first
      | refine vc_e (e_sts (vs := [_, _]) st 0 rfl rfl rfl rfl rfl Tryd.sizeOf29 rfl rfl (by first | (right; assumption) | (left; simp)) ?_)
      | refine vc_e (e_sts (vs := [_, _]) st 1 rfl rfl rfl rfl rfl Tryd.sizeOf29 rfl rfl (by first | (right; assumption) | (left; simp)) ?_)
      | refine vc_e (e_sts (vs := [_, _]) st 2 rfl rfl rfl rfl rfl Tryd.sizeOf29 rfl rfl (by first | (right; assumption) | (left; simp)) ?_)
      | refine vc_e (e_sts (vs := [_, _]) st 3 rfl rfl rfl rfl rfl Tryd.sizeOf29 rfl rfl (by first | (right; assumption) | (left; simp)) ?_)
      intro w st; dsimp only [setNth, wr] at st
      refine vc_end ?_
      refine vq_then ?_
      refine vc_keep [(2, _), (3, _), (4, _)] ⟨rfl, rfl, rfl, trivial⟩ ?_
      refine vc_ret ?_
      refine vq_then_ret ?_
      refine vq_ret3 st (.inl rfl) Tryd.results62 (.tmp rfl) (.tmp rfl) (by first | exact .cell 0 rfl rfl Tryd.isAgg29 Tryd.sizeOf29 | exact .cell 1 rfl rfl Tryd.isAgg29 Tryd.sizeOf29 | exact .cell 2 rfl rfl Tryd.isAgg29 Tryd.sizeOf29 | exact .cell 3 rfl rfl Tryd.isAgg29 Tryd.sizeOf29) ?_
      refine ⟨_, rfl, ?_⟩
      obtain ⟨r, q, hx⟩ : ∃ r q, (front s).2 = some (r, q) := by
        cases hx : (front s).2 with
        | none => rw [hx] at hc19; simp [fRule] at hc19
        | some x => exact ⟨x.1, x.2, rfl⟩
      have e : scanRes s = ([], 20, q, r) := by unfold scanRes; rw [if_neg (by omega), hx]
      refine ⟨st.chg, none, 0, ?_, ?_⟩
      · rw [e, hx]; rfl
      · rw [e]; exact World.ownsRow_nil _ _ _ _
    · intro hc19
      try simp only [decide_eq_true_eq, decide_eq_false_iff_not, Bool.not_eq_true', Bool.not_eq_false', Bool.not_eq_true, Bool.not_eq_false, Int.not_lt, Int.not_le, Nat.not_lt, Nat.not_le, Bool.not_true, Bool.not_false, Bool.true_eq_false, Bool.false_eq_true] at hc19
      refine vc_code_skip ?_
      refine vq_then ?_
      refine vc_keep [(4, _), (5, _)] ⟨rfl, rfl, trivial⟩ ?_
      refine vc_seq ?_
      refine vc_region ?_
      refine vc_y rfl rfl (y_mv rfl) ?_
      refine vc_y rfl rfl (y_bld (.agg #[_, _]) [] rfl (fun w => by simp [Instr.build, go_sem] <;> repeat' constructor)) ?_
      refine vc_y rfl rfl (y_as rfl) ?_
      refine vc_y rfl rfl (y_as rfl) ?_
      first
      | refine vc_e (e_sts (vs := [_, _]) st 0 rfl rfl rfl rfl rfl Tryd.sizeOf29 rfl rfl (by first | (right; assumption) | (left; simp)) ?_)
      | refine vc_e (e_sts (vs := [_, _]) st 1 rfl rfl rfl rfl rfl Tryd.sizeOf29 rfl rfl (by first | (right; assumption) | (left; simp)) ?_)
      | refine vc_e (e_sts (vs := [_, _]) st 2 rfl rfl rfl rfl rfl Tryd.sizeOf29 rfl rfl (by first | (right; assumption) | (left; simp)) ?_)
      | refine vc_e (e_sts (vs := [_, _]) st 3 rfl rfl rfl rfl rfl Tryd.sizeOf29 rfl rfl (by first | (right; assumption) | (left; simp)) ?_)
      intro w st; dsimp only [setNth, wr] at st
      refine vc_end ?_
      refine vq_then ?_
      refine vc_keep [(2, _), (3, _), (4, _)] ⟨rfl, rfl, rfl, trivial⟩ ?_
      refine vc_ret ?_
      refine vq_ret3 st (.inl rfl) Tryd.results62 (.tmp rfl) (.tmp rfl) (by first | exact .cell 0 rfl rfl Tryd.isAgg29 Tryd.sizeOf29 | exact .cell 1 rfl rfl Tryd.isAgg29 Tryd.sizeOf29 | exact .cell 2 rfl rfl Tryd.isAgg29 Tryd.sizeOf29 | exact .cell 3 rfl rfl Tryd.isAgg29 Tryd.sizeOf29) ?_
      refine ⟨_, rfl, ?_⟩
      have hx : (front s).2 = none := by
        cases hx : (front s).2 with
        | none => rfl
        | some x => have := frontFault (s := s) (r := x.1) (p := x.2) hx; rw [hx] at hc19; simp only [fRule] at hc19; omega
      have e : scanRes s = ((front s).1, 0, 0, 0) := by unfold scanRes; rw [if_neg (by omega), hx]
      refine ⟨st.chg, oa, cap, ?_, ?_⟩
      · rw [e]; rfl
      · rw [e]; exact st.res (i := 0) rfl

theorem own : ownKnob Tryd.prog.godebug = none := by kernel_rfl
end Go.Proofs.YtggnfanphcaamaaDoor

