/- A part of the proof: contracts of functions and plain laws; each theorem says its own conditions. -/
import Derived.WalkKit
import Derived.ProofKit
import Derived.OpenShut
import Derived.ShutString
import Derived.ChangeOld
import Derived.Below
import Derived.Test.YtggnfanphcaamaaGreatDoorK14
import Derived.Test.YtggnfanphcaamaaGreatDoorK4
import Derived.Test.YtggnfanphcaamaaGreatDoorK13
namespace Go.Proofs.YtggnfanphcaamaaGreatDoor
open Go.RowKit Sx LexS _root_.Go.Proofs.Tryz
set_option linter.unusedVariables false
set_option linter.unusedSimpArgs false
/-- what 'one' hands back -/
def OnePost (res : TokR) (v : Value) : Prop := match res with
 | .tok t => v = .tuple [.agg (tokL t).toArray, .int .i64 0, .int .i64 0].toArray
 | .bad rule p => ∃ k t wd a, v = .tuple [.agg (tok4 k t wd a).toArray, .int .i64 (rule : Int), .int .i64 (p : Int)].toArray
theorem isWord_len {l : List UInt8} (h : isWord l = true) : l.length ≤ 32 := by
 simp only [isWord, decide_eq_true_eq] at h
 rcases h with h | h | h | h | h | h | h | h | h | h <;> rw [h] <;> decide
theorem numR_digits {T : List UInt8} (hne : T ≠ []) (hall : T.all isDigit = true) : numR T = if (1 < T.length ∧ T.getD 0 0 = 48) ∨ 9223372036854775807 < numVal T then (0, false) else (numVal T, true) := by
 unfold numR
 simp only [hne, hall, Bool.true_eq_false, false_or]
theorem all_takeWhile {p : UInt8 → Bool} (l : List UInt8) : (l.takeWhile p).all p = true := by
 induction l with
 | nil => rfl
 | cons c r ih => rw [List.takeWhile_cons]; split
                  · rename_i h; simp only [List.all_cons, h, ih, Bool.and_self]
                  · rfl
theorem numR_tok {s : List UInt8} {i : Nat} (h : i < s.length) (hc : isLetter (s.getD i 0) = false) (hd : isDigit (s.getD i 0) = true) :
    tokAt (s.drop i) i = if (numR ((s.drop i).takeWhile isDigit)).2 = false then .bad 3 i
   else if i + ((s.drop i).takeWhile isDigit).length < s.length ∧ isLetter (s.getD (i + ((s.drop i).takeWhile isDigit).length) 0) = true then .bad 4 (i + ((s.drop i).takeWhile isDigit).length)
   else .tok ⟨3, (s.drop i).takeWhile isDigit, (numR ((s.drop i).takeWhile isDigit)).1, i⟩ := by
 rw [tokAt_num h hc hd]
 have hT : (s.drop i).takeWhile isDigit = s.getD i 0 :: (s.drop (i + 1)).takeWhile isDigit := by rw [drop_cons h, List.takeWhile_cons, if_pos hd]
 have hall := all_takeWhile (p := isDigit) (s.drop i)
 rw [hT] at hall ⊢
 generalize (s.drop (i + 1)).takeWhile isDigit = U at *
 have h0 : (s.getD i 0 :: U).getD 0 0 = s.getD i 0 := rfl
 rw [numR_digits (by simp) hall, h0]
 by_cases hcond : (1 < (s.getD i 0 :: U).length ∧ s.getD i 0 = 48) ∨ 9223372036854775807 < numVal (s.getD i 0 :: U)
 ·
  rw [if_pos hcond, if_pos hcond, if_pos rfl]
 ·
  rw [if_neg hcond, if_neg hcond]; simp only [Bool.true_eq_false, if_false]

set_option maxHeartbeats 2000000 in
theorem rone_any (s : List UInt8) (i : Nat) (w : World) (hi : i < s.length) (hs : s.length ≤ 9000000000000000000) :
    Ret Tryz.prog 63 [str s, .int .i64 (i : Int)] w fun v w' => OnePost (tokAt (s.drop i) i) v ∧ Chg [] w w' := by
 refine ret_of [_, _] func63 rfl ntmps63 rfl ?_
 have st := St.init w []
 refine vc_seq (vc_region ?_)
 refine vc_e (e_al (l := [_, _, _, _]) st rfl rfl zeroValue82 rfl ?_)
 intro b4 w hb4 st
 iterate 2 refine vc_y rfl rfl (y_as rfl) ?_
 refine vc_end (vq_then (vc_keep [(0, _), (1, _), (4, _)] ⟨rfl, rfl, rfl, trivial⟩ (vc_seq (vc_region ?_))))
 refine vc_y rfl rfl (y_mv rfl) ?_
 refine vc_y rfl rfl (y_as rfl) ?_
 refine vc_end (vq_then (vc_keep [(0, _), (1, _), (4, _), (7, _)] ⟨rfl, rfl, rfl, rfl, trivial⟩ (vc_seq (vc_block (vc_seq (vc_region ?_))))))
 iterate 2 refine vc_y rfl rfl (y_mv rfl) ?_
 refine vc_y rfl rfl (y_ixs (k := i) rfl rfl underlying9 rfl (by omega)) ?_
 refine vc_e (e_call [_] rfl rfl call75 rfl (rletter_any _ _) ?_)
 rintro _ w ⟨rfl, rfl⟩
 refine vc_y rfl rfl (y_as rfl) ?_
 refine vc_end (vq_then (vc_keep [(0, _), (1, _), (4, _), (7, _), (12, _)] ⟨rfl, rfl, rfl, rfl, rfl, trivial⟩ ?_))
 refine vc_ifs rfl ?_ ?_
 ·
  intro hc12
  try simp only [dn] at hc12
  refine vc_seq (vc_block ?_)
  refine vc_loop (w0 := _) (M := _) (fun (j : Nat) => [(0, str s), (1, .int .i64 (i : Int)), (4, .pointer (some ⟨b4, 0, none⟩)), (7, .int .i64 (j : Int))]) (fun _ => [.blk b4 (.cells zeroL.toArray 82 (0, 0))]) (fun j _ => i ≤ j ∧ j ≤ s.length ∧ (s.drop i).takeWhile isIdent = (s.drop i).take (j - i) ++ (s.drop j).takeWhile isIdent) (fun j => s.length - j) i ⟨rfl, rfl, rfl, rfl, trivial⟩ st ⟨by omega, by omega, by simp⟩ ?_
  rintro j w ⟨hij, hj, he⟩ st
  refine vc_seq (vc_seq (vc_region ?_))
  iterate 2 refine vc_y rfl rfl (y_mv rfl) ?_
  refine vc_y rfl rfl (y_lens rfl underlying9) ?_
  refine vc_y rfl rfl (y_lss rfl rfl) ?_
  refine vc_e (e_mvb rfl rfl rfl ?_ ?_)
  ·
   intro hg21
   try simp only [dn] at hg21
   iterate 2 refine vc_y rfl rfl (y_mv rfl) ?_
   refine vc_y rfl rfl (y_ixs (k := j) rfl rfl underlying9 rfl (by omega)) ?_
   refine vc_e (e_call [_] rfl rfl call75 rfl (rletter_any _ _) ?_)
   rintro _ w ⟨rfl, rfl⟩
   refine vc_e (e_mvb rfl rfl rfl ?_ ?_)
   ·
    intro hg26
    try simp only [dn] at hg26
    iterate 4 refine vc_e (e_skip rfl rfl ?_)
    iterate 2 refine vc_y rfl rfl (y_pickt rfl rfl) ?_
    refine vc_end (vq_then (vc_keep [(0, _), (1, _), (4, _), (7, _), (32, _)] ⟨rfl, rfl, rfl, rfl, rfl, trivial⟩ ?_))
    refine vc_ift rfl ?_
    refine vc_code_skip (vq_then (vc_keep [(0, _), (1, _), (4, _), (7, _)] ⟨rfl, rfl, rfl, rfl, trivial⟩ (vc_block (vc_region ?_))))
    refine vc_y rfl rfl (y_mv rfl) ?_
    refine vc_y rfl rfl (y_add rfl rfl rfl (by omega) (by omega)) ?_
    refine vc_y rfl rfl (y_as rfl) ?_
    refine vc_end (vq_block ?_)
    refine vq_again (j + 1) ⟨rfl, rfl, rfl, rfl, trivial⟩ st ?_ ?_
    ·
     exact ⟨by omega, by omega, tw_step hij (by omega) (isIdent_of _ (by first | (left; assumption) | (right; assumption))) he⟩
    ·
     omega
   ·
    intro hg26
    try simp only [dn] at hg26
    iterate 2 refine vc_y rfl rfl (y_mv rfl) ?_
    refine vc_y rfl rfl (y_ixs (k := j) rfl rfl underlying9 rfl (by omega)) ?_
    refine vc_e (e_call [_] rfl rfl call76 rfl (rdigit_any _ _) ?_)
    rintro _ w ⟨rfl, rfl⟩
    refine vc_y rfl rfl (y_pickf rfl rfl) ?_
    refine vc_y rfl rfl (y_pickt rfl rfl) ?_
    refine vc_end (vq_then (vc_keep [(0, _), (1, _), (4, _), (7, _), (32, _)] ⟨rfl, rfl, rfl, rfl, rfl, trivial⟩ ?_))
    refine vc_ifs rfl ?_ ?_
    ·
     intro hc32
     try simp only [dn] at hc32
     refine vc_code_skip (vq_then (vc_keep [(0, _), (1, _), (4, _), (7, _)] ⟨rfl, rfl, rfl, rfl, trivial⟩ (vc_block (vc_region ?_))))
     refine vc_y rfl rfl (y_mv rfl) ?_
     refine vc_y rfl rfl (y_add rfl rfl rfl (by omega) (by omega)) ?_
     refine vc_y rfl rfl (y_as rfl) ?_
     refine vc_end (vq_block ?_)
     refine vq_again (j + 1) ⟨rfl, rfl, rfl, rfl, trivial⟩ st ?_ ?_
     ·
      exact ⟨by omega, by omega, tw_step hij (by omega) (isIdent_of _ (by first | (left; assumption) | (right; assumption))) he⟩
     ·
      omega
    ·
     intro hc32
     try simp only [dn] at hc32
     have hT := tw_end (fun _ => isIdent_no _ (by assumption) (by assumption)) he
     refine vc_exit (vq_then_exit (vq_then_exit (vq_block_exit (vq_then (vc_keep [(0, _), (1, _), (4, _), (7, _)] ⟨rfl, rfl, rfl, rfl, trivial⟩ (vc_seq (vc_region ?_)))))))
     iterate 3 refine vc_y rfl rfl (y_mv rfl) ?_
     refine vc_y rfl rfl (y_sls (i := i) (j := j) rfl rfl rfl underlying9 rfl rfl (by omega) (by omega)) ?_
     refine vc_y rfl rfl (y_mv rfl) ?_
     refine vc_y rfl rfl (y_bld (.agg #[_, _, _, _]) [(0, _), (1, _), (3, _)] rfl (fun w => by simp [Instr.build, go_sem] <;> repeat' constructor)) ?_
     refine vc_e (e_al (l := [_, _, _, _]) st rfl rfl zeroValue82 rfl ?_)
     intro b8 w hb8 st
     refine vc_e (e_sts (vs := [_, _, _, _]) st 0 rfl rfl rfl rfl rfl sizeOf82 rfl rfl (by first | (right; assumption) | (left; simp)) ?_)
     intro w st; dsimp only [setNth, wr] at st
     refine vc_end (vq_then (vc_keep [(1, _), (4, _), (7, _), (8, _)] ⟨rfl, rfl, rfl, rfl, trivial⟩ (vc_seq (vc_seq (vc_region ?_)))))
     refine vc_y rfl rfl ((by exact y_faz (k := 1) rfl underlying82 rfl rfl sizeOf9 rfl)) ?_
     refine vc_y rfl rfl ((by exact y_ld st 0 rfl isAgg9 rfl rfl)) ?_
     refine vc_e (e_call [_] rfl rfl call77 rfl (rword_any _ _) ?_)
     rintro _ w ⟨rfl, rfl⟩
     refine vc_end (vq_then (vc_keep [(1, _), (4, _), (7, _), (8, _), (43, _)] ⟨rfl, rfl, rfl, rfl, rfl, trivial⟩ ?_))
     refine vc_ifs rfl ?_ ?_
     ·
      intro hc43
      try simp only [dn] at hc43
      refine vc_region ?_
      refine vc_y rfl rfl (y_fa0 rfl underlying82 rfl rfl sizeOf80 rfl) ?_
      refine vc_e (e_st st 0 rfl rfl rfl rfl sizeOf80 rfl rfl (by first | (right; assumption) | (left; simp)) ?_)
      intro w st; dsimp only [setNth, wr] at st
      refine vc_end (vq_then (vc_keep [(1, _), (4, _), (7, _), (8, _)] ⟨rfl, rfl, rfl, rfl, trivial⟩ (vc_seq (vc_seq (vc_region ?_)))))
      iterate 2 refine vc_y rfl rfl (y_mv rfl) ?_
      refine vc_y rfl rfl (y_sub rfl rfl rfl (by omega) (by omega)) ?_
      refine vc_y rfl rfl (y_gtr rfl rfl) ?_
      refine vc_end (vq_then (vc_keep [(1, _), (4, _), (8, _), (48, _)] ⟨rfl, rfl, rfl, rfl, trivial⟩ ?_))
      refine vc_ifs rfl ?_ ?_
      ·
       intro hc48
       try simp only [dn] at hc48
       refine vc_seq (vc_region ?_)
       refine vc_y rfl rfl ((by exact y_lda (vs := [_, _, _, _]) st 0 rfl isAgg82 sizeOf82 rfl rfl)) ?_
       refine vc_y rfl rfl (y_mv rfl) ?_
       refine vc_y rfl rfl (y_add rfl rfl (by omega : _ = ((i + 32 : Nat) : Int)) (by omega) (by omega)) ?_
       refine vc_e (e_sts (vs := [_, _, _, _]) st 1 rfl rfl rfl rfl rfl sizeOf82 rfl rfl (by first | (right; assumption) | (left; simp)) ?_)
       intro w st; dsimp only [setNth, wr] at st
       iterate 2 refine vc_y rfl rfl (y_as rfl) ?_
       refine vc_end (vq_then (vc_keep [(4, _), (5, _), (6, _)] ⟨rfl, rfl, rfl, trivial⟩ (vc_ret (vq_then_ret (vq_block_ret (vq_then_ret ?_))))))
       refine vq_ret3 st (.inl rfl) results63 (by exact .cell 1 rfl rfl isAgg82 sizeOf82) (.tmp rfl) (.tmp rfl) ?_
       refine ⟨_, rfl, ?_⟩
       have hlen : (List.take (j - i) (List.drop i s)).length = j - i := by simp; omega
       refine ⟨?_, st.chg⟩
       rw [tokAt_word hi (by assumption), hT, hlen]
       first
       | (exfalso; have := isWord_len hc43; omega)
       | (rw [if_pos hc43]; rfl)
       | (rw [if_neg (by rw [hc43]; simp), if_pos (by omega)]; exact ⟨_, _, _, _, rfl⟩)
       | (rw [if_neg (by rw [hc43]; simp), if_neg (by omega)]; rfl)
      ·
       intro hc48
       try simp only [dn] at hc48
       refine vc_code_skip (vq_then (vc_keep [(4, _), (8, _)] ⟨rfl, rfl, trivial⟩ (vc_seq (vc_region ?_))))
       refine vc_y rfl rfl ((by exact y_lda (vs := [_, _, _, _]) st 0 rfl isAgg82 sizeOf82 rfl rfl)) ?_
       refine vc_e (e_sts (vs := [_, _, _, _]) st 1 rfl rfl rfl rfl rfl sizeOf82 rfl rfl (by first | (right; assumption) | (left; simp)) ?_)
       intro w st; dsimp only [setNth, wr] at st
       iterate 2 refine vc_y rfl rfl (y_as rfl) ?_
       refine vc_end (vq_then (vc_keep [(4, _), (5, _), (6, _)] ⟨rfl, rfl, rfl, trivial⟩ (vc_ret (vq_block_ret (vq_then_ret ?_)))))
       refine vq_ret3 st (.inl rfl) results63 (by exact .cell 1 rfl rfl isAgg82 sizeOf82) (.tmp rfl) (.tmp rfl) ?_
       refine ⟨_, rfl, ?_⟩
       have hlen : (List.take (j - i) (List.drop i s)).length = j - i := by simp; omega
       refine ⟨?_, st.chg⟩
       rw [tokAt_word hi (by assumption), hT, hlen]
       first
       | (exfalso; have := isWord_len hc43; omega)
       | (rw [if_pos hc43]; rfl)
       | (rw [if_neg (by rw [hc43]; simp), if_pos (by omega)]; exact ⟨_, _, _, _, rfl⟩)
       | (rw [if_neg (by rw [hc43]; simp), if_neg (by omega)]; rfl)
     ·
      intro hc43
      try simp only [dn] at hc43
      refine vc_code_skip (vq_then (vc_keep [(1, _), (4, _), (7, _), (8, _)] ⟨rfl, rfl, rfl, rfl, trivial⟩ (vc_seq (vc_seq (vc_region ?_)))))
      iterate 2 refine vc_y rfl rfl (y_mv rfl) ?_
      refine vc_y rfl rfl (y_sub rfl rfl rfl (by omega) (by omega)) ?_
      refine vc_y rfl rfl (y_gtr rfl rfl) ?_
      refine vc_end (vq_then (vc_keep [(1, _), (4, _), (8, _), (48, _)] ⟨rfl, rfl, rfl, rfl, trivial⟩ ?_))
      refine vc_ifs rfl ?_ ?_
      ·
       intro hc48
       try simp only [dn] at hc48
       refine vc_seq (vc_region ?_)
       refine vc_y rfl rfl ((by exact y_lda (vs := [_, _, _, _]) st 0 rfl isAgg82 sizeOf82 rfl rfl)) ?_
       refine vc_y rfl rfl (y_mv rfl) ?_
       refine vc_y rfl rfl (y_add rfl rfl (by omega : _ = ((i + 32 : Nat) : Int)) (by omega) (by omega)) ?_
       refine vc_e (e_sts (vs := [_, _, _, _]) st 1 rfl rfl rfl rfl rfl sizeOf82 rfl rfl (by first | (right; assumption) | (left; simp)) ?_)
       intro w st; dsimp only [setNth, wr] at st
       iterate 2 refine vc_y rfl rfl (y_as rfl) ?_
       refine vc_end (vq_then (vc_keep [(4, _), (5, _), (6, _)] ⟨rfl, rfl, rfl, trivial⟩ (vc_ret (vq_then_ret (vq_block_ret (vq_then_ret ?_))))))
       refine vq_ret3 st (.inl rfl) results63 (by exact .cell 1 rfl rfl isAgg82 sizeOf82) (.tmp rfl) (.tmp rfl) ?_
       refine ⟨_, rfl, ?_⟩
       have hlen : (List.take (j - i) (List.drop i s)).length = j - i := by simp; omega
       refine ⟨?_, st.chg⟩
       rw [tokAt_word hi (by assumption), hT, hlen]
       first
       | (exfalso; have := isWord_len hc43; omega)
       | (rw [if_pos hc43]; rfl)
       | (rw [if_neg (by rw [hc43]; simp), if_pos (by omega)]; exact ⟨_, _, _, _, rfl⟩)
       | (rw [if_neg (by rw [hc43]; simp), if_neg (by omega)]; rfl)
      ·
       intro hc48
       try simp only [dn] at hc48
       refine vc_code_skip (vq_then (vc_keep [(4, _), (8, _)] ⟨rfl, rfl, trivial⟩ (vc_seq (vc_region ?_))))
       refine vc_y rfl rfl ((by exact y_lda (vs := [_, _, _, _]) st 0 rfl isAgg82 sizeOf82 rfl rfl)) ?_
       refine vc_e (e_sts (vs := [_, _, _, _]) st 1 rfl rfl rfl rfl rfl sizeOf82 rfl rfl (by first | (right; assumption) | (left; simp)) ?_)
       intro w st; dsimp only [setNth, wr] at st
       iterate 2 refine vc_y rfl rfl (y_as rfl) ?_
       refine vc_end (vq_then (vc_keep [(4, _), (5, _), (6, _)] ⟨rfl, rfl, rfl, trivial⟩ (vc_ret (vq_block_ret (vq_then_ret ?_)))))
       refine vq_ret3 st (.inl rfl) results63 (by exact .cell 1 rfl rfl isAgg82 sizeOf82) (.tmp rfl) (.tmp rfl) ?_
       refine ⟨_, rfl, ?_⟩
       have hlen : (List.take (j - i) (List.drop i s)).length = j - i := by simp; omega
       refine ⟨?_, st.chg⟩
       rw [tokAt_word hi (by assumption), hT, hlen]
       first
       | (exfalso; have := isWord_len hc43; omega)
       | (rw [if_pos hc43]; rfl)
       | (rw [if_neg (by rw [hc43]; simp), if_pos (by omega)]; exact ⟨_, _, _, _, rfl⟩)
       | (rw [if_neg (by rw [hc43]; simp), if_neg (by omega)]; rfl)
  ·
   intro hg21
   try simp only [dn] at hg21
   have hT := tw_end (fun h => absurd h (by omega)) he
   iterate 10 refine vc_e (e_skip rfl rfl ?_)
   refine vc_y rfl rfl (y_pickf rfl rfl) ?_
   refine vc_end (vq_then (vc_keep [(0, _), (1, _), (4, _), (7, _), (32, _)] ⟨rfl, rfl, rfl, rfl, rfl, trivial⟩ ?_))
   refine vc_iff rfl ?_
   refine vc_exit (vq_then_exit (vq_then_exit (vq_block_exit (vq_then (vc_keep [(0, _), (1, _), (4, _), (7, _)] ⟨rfl, rfl, rfl, rfl, trivial⟩ (vc_seq (vc_region ?_)))))))
   iterate 3 refine vc_y rfl rfl (y_mv rfl) ?_
   refine vc_y rfl rfl (y_sls (i := i) (j := j) rfl rfl rfl underlying9 rfl rfl (by omega) (by omega)) ?_
   refine vc_y rfl rfl (y_mv rfl) ?_
   refine vc_y rfl rfl (y_bld (.agg #[_, _, _, _]) [(0, _), (1, _), (3, _)] rfl (fun w => by simp [Instr.build, go_sem] <;> repeat' constructor)) ?_
   refine vc_e (e_al (l := [_, _, _, _]) st rfl rfl zeroValue82 rfl ?_)
   intro b8 w hb8 st
   refine vc_e (e_sts (vs := [_, _, _, _]) st 0 rfl rfl rfl rfl rfl sizeOf82 rfl rfl (by first | (right; assumption) | (left; simp)) ?_)
   intro w st; dsimp only [setNth, wr] at st
   refine vc_end (vq_then (vc_keep [(1, _), (4, _), (7, _), (8, _)] ⟨rfl, rfl, rfl, rfl, trivial⟩ (vc_seq (vc_seq (vc_region ?_)))))
   refine vc_y rfl rfl ((by exact y_faz (k := 1) rfl underlying82 rfl rfl sizeOf9 rfl)) ?_
   refine vc_y rfl rfl ((by exact y_ld st 0 rfl isAgg9 rfl rfl)) ?_
   refine vc_e (e_call [_] rfl rfl call77 rfl (rword_any _ _) ?_)
   rintro _ w ⟨rfl, rfl⟩
   refine vc_end (vq_then (vc_keep [(1, _), (4, _), (7, _), (8, _), (43, _)] ⟨rfl, rfl, rfl, rfl, rfl, trivial⟩ ?_))
   refine vc_ifs rfl ?_ ?_
   ·
    intro hc43
    try simp only [dn] at hc43
    refine vc_region ?_
    refine vc_y rfl rfl (y_fa0 rfl underlying82 rfl rfl sizeOf80 rfl) ?_
    refine vc_e (e_st st 0 rfl rfl rfl rfl sizeOf80 rfl rfl (by first | (right; assumption) | (left; simp)) ?_)
    intro w st; dsimp only [setNth, wr] at st
    refine vc_end (vq_then (vc_keep [(1, _), (4, _), (7, _), (8, _)] ⟨rfl, rfl, rfl, rfl, trivial⟩ (vc_seq (vc_seq (vc_region ?_)))))
    iterate 2 refine vc_y rfl rfl (y_mv rfl) ?_
    refine vc_y rfl rfl (y_sub rfl rfl rfl (by omega) (by omega)) ?_
    refine vc_y rfl rfl (y_gtr rfl rfl) ?_
    refine vc_end (vq_then (vc_keep [(1, _), (4, _), (8, _), (48, _)] ⟨rfl, rfl, rfl, rfl, trivial⟩ ?_))
    refine vc_ifs rfl ?_ ?_
    ·
     intro hc48
     try simp only [dn] at hc48
     refine vc_seq (vc_region ?_)
     refine vc_y rfl rfl ((by exact y_lda (vs := [_, _, _, _]) st 0 rfl isAgg82 sizeOf82 rfl rfl)) ?_
     refine vc_y rfl rfl (y_mv rfl) ?_
     refine vc_y rfl rfl (y_add rfl rfl (by omega : _ = ((i + 32 : Nat) : Int)) (by omega) (by omega)) ?_
     refine vc_e (e_sts (vs := [_, _, _, _]) st 1 rfl rfl rfl rfl rfl sizeOf82 rfl rfl (by first | (right; assumption) | (left; simp)) ?_)
     intro w st; dsimp only [setNth, wr] at st
     iterate 2 refine vc_y rfl rfl (y_as rfl) ?_
     refine vc_end (vq_then (vc_keep [(4, _), (5, _), (6, _)] ⟨rfl, rfl, rfl, trivial⟩ (vc_ret (vq_then_ret (vq_block_ret (vq_then_ret ?_))))))
     refine vq_ret3 st (.inl rfl) results63 (by exact .cell 1 rfl rfl isAgg82 sizeOf82) (.tmp rfl) (.tmp rfl) ?_
     refine ⟨_, rfl, ?_⟩
     have hlen : (List.take (j - i) (List.drop i s)).length = j - i := by simp; omega
     refine ⟨?_, st.chg⟩
     rw [tokAt_word hi (by assumption), hT, hlen]
     first
     | (exfalso; have := isWord_len hc43; omega)
     | (rw [if_pos hc43]; rfl)
     | (rw [if_neg (by rw [hc43]; simp), if_pos (by omega)]; exact ⟨_, _, _, _, rfl⟩)
     | (rw [if_neg (by rw [hc43]; simp), if_neg (by omega)]; rfl)
    ·
     intro hc48
     try simp only [dn] at hc48
     refine vc_code_skip (vq_then (vc_keep [(4, _), (8, _)] ⟨rfl, rfl, trivial⟩ (vc_seq (vc_region ?_))))
     refine vc_y rfl rfl ((by exact y_lda (vs := [_, _, _, _]) st 0 rfl isAgg82 sizeOf82 rfl rfl)) ?_
     refine vc_e (e_sts (vs := [_, _, _, _]) st 1 rfl rfl rfl rfl rfl sizeOf82 rfl rfl (by first | (right; assumption) | (left; simp)) ?_)
     intro w st; dsimp only [setNth, wr] at st
     iterate 2 refine vc_y rfl rfl (y_as rfl) ?_
     refine vc_end (vq_then (vc_keep [(4, _), (5, _), (6, _)] ⟨rfl, rfl, rfl, trivial⟩ (vc_ret (vq_block_ret (vq_then_ret ?_)))))
     refine vq_ret3 st (.inl rfl) results63 (by exact .cell 1 rfl rfl isAgg82 sizeOf82) (.tmp rfl) (.tmp rfl) ?_
     refine ⟨_, rfl, ?_⟩
     have hlen : (List.take (j - i) (List.drop i s)).length = j - i := by simp; omega
     refine ⟨?_, st.chg⟩
     rw [tokAt_word hi (by assumption), hT, hlen]
     first
     | (exfalso; have := isWord_len hc43; omega)
     | (rw [if_pos hc43]; rfl)
     | (rw [if_neg (by rw [hc43]; simp), if_pos (by omega)]; exact ⟨_, _, _, _, rfl⟩)
     | (rw [if_neg (by rw [hc43]; simp), if_neg (by omega)]; rfl)
   ·
    intro hc43
    try simp only [dn] at hc43
    refine vc_code_skip (vq_then (vc_keep [(1, _), (4, _), (7, _), (8, _)] ⟨rfl, rfl, rfl, rfl, trivial⟩ (vc_seq (vc_seq (vc_region ?_)))))
    iterate 2 refine vc_y rfl rfl (y_mv rfl) ?_
    refine vc_y rfl rfl (y_sub rfl rfl rfl (by omega) (by omega)) ?_
    refine vc_y rfl rfl (y_gtr rfl rfl) ?_
    refine vc_end (vq_then (vc_keep [(1, _), (4, _), (8, _), (48, _)] ⟨rfl, rfl, rfl, rfl, trivial⟩ ?_))
    refine vc_ifs rfl ?_ ?_
    ·
     intro hc48
     try simp only [dn] at hc48
     refine vc_seq (vc_region ?_)
     refine vc_y rfl rfl ((by exact y_lda (vs := [_, _, _, _]) st 0 rfl isAgg82 sizeOf82 rfl rfl)) ?_
     refine vc_y rfl rfl (y_mv rfl) ?_
     refine vc_y rfl rfl (y_add rfl rfl (by omega : _ = ((i + 32 : Nat) : Int)) (by omega) (by omega)) ?_
     refine vc_e (e_sts (vs := [_, _, _, _]) st 1 rfl rfl rfl rfl rfl sizeOf82 rfl rfl (by first | (right; assumption) | (left; simp)) ?_)
     intro w st; dsimp only [setNth, wr] at st
     iterate 2 refine vc_y rfl rfl (y_as rfl) ?_
     refine vc_end (vq_then (vc_keep [(4, _), (5, _), (6, _)] ⟨rfl, rfl, rfl, trivial⟩ (vc_ret (vq_then_ret (vq_block_ret (vq_then_ret ?_))))))
     refine vq_ret3 st (.inl rfl) results63 (by exact .cell 1 rfl rfl isAgg82 sizeOf82) (.tmp rfl) (.tmp rfl) ?_
     refine ⟨_, rfl, ?_⟩
     have hlen : (List.take (j - i) (List.drop i s)).length = j - i := by simp; omega
     refine ⟨?_, st.chg⟩
     rw [tokAt_word hi (by assumption), hT, hlen]
     first
     | (exfalso; have := isWord_len hc43; omega)
     | (rw [if_pos hc43]; rfl)
     | (rw [if_neg (by rw [hc43]; simp), if_pos (by omega)]; exact ⟨_, _, _, _, rfl⟩)
     | (rw [if_neg (by rw [hc43]; simp), if_neg (by omega)]; rfl)
    ·
     intro hc48
     try simp only [dn] at hc48
     refine vc_code_skip (vq_then (vc_keep [(4, _), (8, _)] ⟨rfl, rfl, trivial⟩ (vc_seq (vc_region ?_))))
     refine vc_y rfl rfl ((by exact y_lda (vs := [_, _, _, _]) st 0 rfl isAgg82 sizeOf82 rfl rfl)) ?_
     refine vc_e (e_sts (vs := [_, _, _, _]) st 1 rfl rfl rfl rfl rfl sizeOf82 rfl rfl (by first | (right; assumption) | (left; simp)) ?_)
     intro w st; dsimp only [setNth, wr] at st
     iterate 2 refine vc_y rfl rfl (y_as rfl) ?_
     refine vc_end (vq_then (vc_keep [(4, _), (5, _), (6, _)] ⟨rfl, rfl, rfl, trivial⟩ (vc_ret (vq_block_ret (vq_then_ret ?_)))))
     refine vq_ret3 st (.inl rfl) results63 (by exact .cell 1 rfl rfl isAgg82 sizeOf82) (.tmp rfl) (.tmp rfl) ?_
     refine ⟨_, rfl, ?_⟩
     have hlen : (List.take (j - i) (List.drop i s)).length = j - i := by simp; omega
     refine ⟨?_, st.chg⟩
     rw [tokAt_word hi (by assumption), hT, hlen]
     first
     | (exfalso; have := isWord_len hc43; omega)
     | (rw [if_pos hc43]; rfl)
     | (rw [if_neg (by rw [hc43]; simp), if_pos (by omega)]; exact ⟨_, _, _, _, rfl⟩)
     | (rw [if_neg (by rw [hc43]; simp), if_neg (by omega)]; rfl)
 ·
  intro hc12
  try simp only [dn] at hc12
  refine vc_seq (vc_region ?_)
  iterate 2 refine vc_y rfl rfl (y_mv rfl) ?_
  refine vc_y rfl rfl (y_ixs (k := i) rfl rfl underlying9 rfl (by omega)) ?_
  refine vc_e (e_call [_] rfl rfl call76 rfl (rdigit_any _ _) ?_)
  rintro _ w ⟨rfl, rfl⟩
  refine vc_y rfl rfl (y_as rfl) ?_
  refine vc_end (vq_then (vc_keep [(0, _), (1, _), (4, _), (7, _), (53, _)] ⟨rfl, rfl, rfl, rfl, rfl, trivial⟩ ?_))
  refine vc_ifs rfl ?_ ?_
  ·
   intro hc53
   try simp only [dn] at hc53
   refine vc_seq (vc_block ?_)
   refine vc_loop (w0 := _) (M := _) (fun (j : Nat) => [(0, str s), (1, .int .i64 (i : Int)), (4, .pointer (some ⟨b4, 0, none⟩)), (7, .int .i64 (j : Int))]) (fun _ => [.blk b4 (.cells zeroL.toArray 82 (0, 0))]) (fun j _ => i ≤ j ∧ j ≤ s.length ∧ (s.drop i).takeWhile isDigit = (s.drop i).take (j - i) ++ (s.drop j).takeWhile isDigit) (fun j => s.length - j) i ⟨rfl, rfl, rfl, rfl, trivial⟩ st ⟨by omega, by omega, by simp⟩ ?_
   rintro j w ⟨hij, hj, he⟩ st
   refine vc_seq (vc_seq (vc_region ?_))
   iterate 2 refine vc_y rfl rfl (y_mv rfl) ?_
   refine vc_y rfl rfl (y_lens rfl underlying9) ?_
   refine vc_y rfl rfl (y_lss rfl rfl) ?_
   refine vc_e (e_mvb rfl rfl rfl ?_ ?_)
   ·
    intro hg62
    try simp only [dn] at hg62
    iterate 2 refine vc_y rfl rfl (y_mv rfl) ?_
    refine vc_y rfl rfl (y_ixs (k := j) rfl rfl underlying9 rfl (by omega)) ?_
    refine vc_e (e_call [_] rfl rfl call76 rfl (rdigit_any _ _) ?_)
    rintro _ w ⟨rfl, rfl⟩
    refine vc_y rfl rfl (y_pickt rfl rfl) ?_
    refine vc_end (vq_then (vc_keep [(0, _), (1, _), (4, _), (7, _), (67, _)] ⟨rfl, rfl, rfl, rfl, rfl, trivial⟩ ?_))
    refine vc_ifs rfl ?_ ?_
    ·
     intro hc67
     try simp only [dn] at hc67
     refine vc_code_skip (vq_then (vc_keep [(0, _), (1, _), (4, _), (7, _)] ⟨rfl, rfl, rfl, rfl, trivial⟩ (vc_block (vc_region ?_))))
     refine vc_y rfl rfl (y_mv rfl) ?_
     refine vc_y rfl rfl (y_add rfl rfl rfl (by omega) (by omega)) ?_
     refine vc_y rfl rfl (y_as rfl) ?_
     refine vc_end (vq_block ?_)
     refine vq_again (j + 1) ⟨rfl, rfl, rfl, rfl, trivial⟩ st ?_ ?_
     ·
      exact ⟨by omega, by omega, tw_step hij (by omega) (by assumption) he⟩
     ·
      omega
    ·
     intro hc67
     try simp only [dn] at hc67
     have hT := tw_end (fun _ => by assumption) he
     refine vc_exit (vq_then_exit (vq_then_exit (vq_block_exit (vq_then (vc_keep [(0, _), (1, _), (4, _), (7, _)] ⟨rfl, rfl, rfl, rfl, trivial⟩ (vc_seq (vc_region ?_)))))))
     iterate 3 refine vc_y rfl rfl (y_mv rfl) ?_
     refine vc_y rfl rfl (y_sls (i := i) (j := j) rfl rfl rfl underlying9 rfl rfl (by omega) (by omega)) ?_
     refine vc_e (e_call [_] rfl rfl call78 rfl (rnumber_any _ _ (by simp; omega)) ?_)
     rintro _ w ⟨rfl, rfl⟩
     refine vc_y rfl rfl (y_mv rfl) ?_
     iterate 2 refine vc_y rfl rfl (y_ext rfl rfl) ?_
     iterate 2 refine vc_y rfl rfl (y_as rfl) ?_
     refine vc_end (vq_then (vc_keep [(0, _), (1, _), (4, _), (7, _), (9, _), (10, _)] ⟨rfl, rfl, rfl, rfl, rfl, rfl, trivial⟩ (vc_seq (vc_seq (vc_region ?_)))))
     refine vc_y rfl rfl (y_mv rfl) ?_
     refine vc_y rfl rfl (y_not rfl) ?_
     refine vc_end (vq_then (vc_keep [(0, _), (1, _), (4, _), (7, _), (9, _), (79, _)] ⟨rfl, rfl, rfl, rfl, rfl, rfl, trivial⟩ ?_))
     refine vc_ifs rfl ?_ ?_
     ·
      intro hc79
      try simp only [dn] at hc79
      refine vc_seq (vc_region ?_)
      refine vc_y rfl rfl (y_bld (.agg #[_, _, _, _]) [] rfl (fun w => by simp [Instr.build, go_sem] <;> repeat' constructor)) ?_
      refine vc_y rfl rfl (y_mv rfl) ?_
      refine vc_e (e_sts (vs := [_, _, _, _]) st 0 rfl rfl rfl rfl rfl sizeOf82 rfl rfl (by first | (right; assumption) | (left; simp)) ?_)
      intro w st; dsimp only [setNth, wr] at st
      iterate 2 refine vc_y rfl rfl (y_as rfl) ?_
      refine vc_end (vq_then (vc_keep [(4, _), (5, _), (6, _)] ⟨rfl, rfl, rfl, trivial⟩ (vc_ret (vq_then_ret (vq_block_ret (vq_then_ret ?_))))))
      refine vq_ret3 st (.inl rfl) results63 (by exact .cell 0 rfl rfl isAgg82 sizeOf82) (.tmp rfl) (.tmp rfl) ?_
      refine ⟨_, rfl, ?_⟩
      have hlen : (List.take (j - i) (List.drop i s)).length = j - i := by simp; omega
      refine ⟨?_, st.chg⟩
      rw [numR_tok hi (by assumption) (by assumption), hT, hlen, show i + (j - i) = j by omega]
      first
      | (rw [if_pos (by assumption)]; exact ⟨_, _, _, _, rfl⟩)
      | (rw [if_neg (by rw [hc79]; simp), if_pos ⟨by omega, by assumption⟩]; exact ⟨_, _, _, _, rfl⟩)
      | (rw [if_neg (by rw [hc79]; simp), if_neg (by rintro ⟨h1, h2⟩; first | omega | simp_all)]; rfl)
     ·
      intro hc79
      try simp only [dn] at hc79
      refine vc_code_skip (vq_then (vc_keep [(0, _), (1, _), (4, _), (7, _), (9, _)] ⟨rfl, rfl, rfl, rfl, rfl, trivial⟩ (vc_seq (vc_seq (vc_region ?_)))))
      iterate 2 refine vc_y rfl rfl (y_mv rfl) ?_
      refine vc_y rfl rfl (y_lens rfl underlying9) ?_
      refine vc_y rfl rfl (y_lss rfl rfl) ?_
      refine vc_e (e_mvb rfl rfl rfl ?_ ?_)
      ·
       intro hg86
       try simp only [dn] at hg86
       iterate 2 refine vc_y rfl rfl (y_mv rfl) ?_
       refine vc_y rfl rfl (y_ixs (k := j) rfl rfl underlying9 rfl (by omega)) ?_
       refine vc_e (e_call [_] rfl rfl call75 rfl (rletter_any _ _) ?_)
       rintro _ w ⟨rfl, rfl⟩
       refine vc_y rfl rfl (y_pickt rfl rfl) ?_
       refine vc_end (vq_then (vc_keep [(0, _), (1, _), (4, _), (7, _), (9, _), (91, _)] ⟨rfl, rfl, rfl, rfl, rfl, rfl, trivial⟩ ?_))
       refine vc_ifs rfl ?_ ?_
       ·
        intro hc91
        try simp only [dn] at hc91
        refine vc_seq (vc_region ?_)
        refine vc_y rfl rfl (y_bld (.agg #[_, _, _, _]) [] rfl (fun w => by simp [Instr.build, go_sem] <;> repeat' constructor)) ?_
        refine vc_y rfl rfl (y_mv rfl) ?_
        refine vc_e (e_sts (vs := [_, _, _, _]) st 0 rfl rfl rfl rfl rfl sizeOf82 rfl rfl (by first | (right; assumption) | (left; simp)) ?_)
        intro w st; dsimp only [setNth, wr] at st
        iterate 2 refine vc_y rfl rfl (y_as rfl) ?_
        refine vc_end (vq_then (vc_keep [(4, _), (5, _), (6, _)] ⟨rfl, rfl, rfl, trivial⟩ (vc_ret (vq_then_ret (vq_block_ret (vq_then_ret ?_))))))
        refine vq_ret3 st (.inl rfl) results63 (by exact .cell 0 rfl rfl isAgg82 sizeOf82) (.tmp rfl) (.tmp rfl) ?_
        refine ⟨_, rfl, ?_⟩
        have hlen : (List.take (j - i) (List.drop i s)).length = j - i := by simp; omega
        refine ⟨?_, st.chg⟩
        rw [numR_tok hi (by assumption) (by assumption), hT, hlen, show i + (j - i) = j by omega]
        first
        | (rw [if_pos (by assumption)]; exact ⟨_, _, _, _, rfl⟩)
        | (rw [if_neg (by rw [hc79]; simp), if_pos ⟨by omega, by assumption⟩]; exact ⟨_, _, _, _, rfl⟩)
        | (rw [if_neg (by rw [hc79]; simp), if_neg (by rintro ⟨h1, h2⟩; first | omega | simp_all)]; rfl)
       ·
        intro hc91
        try simp only [dn] at hc91
        refine vc_code_skip (vq_then (vc_keep [(0, _), (1, _), (4, _), (7, _), (9, _)] ⟨rfl, rfl, rfl, rfl, rfl, trivial⟩ (vc_seq (vc_region ?_))))
        iterate 3 refine vc_y rfl rfl (y_mv rfl) ?_
        refine vc_y rfl rfl (y_sls (i := i) (j := j) rfl rfl rfl underlying9 rfl rfl (by omega) (by omega)) ?_
        iterate 2 refine vc_y rfl rfl (y_mv rfl) ?_
        refine vc_y rfl rfl (y_bld (.agg #[_, _, _, _]) [(0, _), (1, _), (2, _), (3, _)] rfl (fun w => by simp [Instr.build, go_sem] <;> repeat' constructor)) ?_
        refine vc_e (e_sts (vs := [_, _, _, _]) st 0 rfl rfl rfl rfl rfl sizeOf82 rfl rfl (by first | (right; assumption) | (left; simp)) ?_)
        intro w st; dsimp only [setNth, wr] at st
        iterate 2 refine vc_y rfl rfl (y_as rfl) ?_
        refine vc_end (vq_then (vc_keep [(4, _), (5, _), (6, _)] ⟨rfl, rfl, rfl, trivial⟩ (vc_ret (vq_block_ret (vq_then_ret ?_)))))
        refine vq_ret3 st (.inl rfl) results63 (by exact .cell 0 rfl rfl isAgg82 sizeOf82) (.tmp rfl) (.tmp rfl) ?_
        refine ⟨_, rfl, ?_⟩
        have hlen : (List.take (j - i) (List.drop i s)).length = j - i := by simp; omega
        refine ⟨?_, st.chg⟩
        rw [numR_tok hi (by assumption) (by assumption), hT, hlen, show i + (j - i) = j by omega]
        first
        | (rw [if_pos (by assumption)]; exact ⟨_, _, _, _, rfl⟩)
        | (rw [if_neg (by rw [hc79]; simp), if_pos ⟨by omega, by assumption⟩]; exact ⟨_, _, _, _, rfl⟩)
        | (rw [if_neg (by rw [hc79]; simp), if_neg (by rintro ⟨h1, h2⟩; first | omega | simp_all)]; rfl)
      ·
       intro hg86
       try simp only [dn] at hg86
       iterate 4 refine vc_e (e_skip rfl rfl ?_)
       refine vc_y rfl rfl (y_pickf rfl rfl) ?_
       refine vc_end (vq_then (vc_keep [(0, _), (1, _), (4, _), (7, _), (9, _), (91, _)] ⟨rfl, rfl, rfl, rfl, rfl, rfl, trivial⟩ ?_))
       refine vc_iff rfl ?_
       refine vc_code_skip (vq_then (vc_keep [(0, _), (1, _), (4, _), (7, _), (9, _)] ⟨rfl, rfl, rfl, rfl, rfl, trivial⟩ (vc_seq (vc_region ?_))))
       iterate 3 refine vc_y rfl rfl (y_mv rfl) ?_
       refine vc_y rfl rfl (y_sls (i := i) (j := j) rfl rfl rfl underlying9 rfl rfl (by omega) (by omega)) ?_
       iterate 2 refine vc_y rfl rfl (y_mv rfl) ?_
       refine vc_y rfl rfl (y_bld (.agg #[_, _, _, _]) [(0, _), (1, _), (2, _), (3, _)] rfl (fun w => by simp [Instr.build, go_sem] <;> repeat' constructor)) ?_
       refine vc_e (e_sts (vs := [_, _, _, _]) st 0 rfl rfl rfl rfl rfl sizeOf82 rfl rfl (by first | (right; assumption) | (left; simp)) ?_)
       intro w st; dsimp only [setNth, wr] at st
       iterate 2 refine vc_y rfl rfl (y_as rfl) ?_
       refine vc_end (vq_then (vc_keep [(4, _), (5, _), (6, _)] ⟨rfl, rfl, rfl, trivial⟩ (vc_ret (vq_block_ret (vq_then_ret ?_)))))
       refine vq_ret3 st (.inl rfl) results63 (by exact .cell 0 rfl rfl isAgg82 sizeOf82) (.tmp rfl) (.tmp rfl) ?_
       refine ⟨_, rfl, ?_⟩
       have hlen : (List.take (j - i) (List.drop i s)).length = j - i := by simp; omega
       refine ⟨?_, st.chg⟩
       rw [numR_tok hi (by assumption) (by assumption), hT, hlen, show i + (j - i) = j by omega]
       first
       | (rw [if_pos (by assumption)]; exact ⟨_, _, _, _, rfl⟩)
       | (rw [if_neg (by rw [hc79]; simp), if_pos ⟨by omega, by assumption⟩]; exact ⟨_, _, _, _, rfl⟩)
       | (rw [if_neg (by rw [hc79]; simp), if_neg (by rintro ⟨h1, h2⟩; first | omega | simp_all)]; rfl)
   ·
    intro hg62
    try simp only [dn] at hg62
    have hT := tw_end (fun h => absurd h (by omega)) he
    iterate 4 refine vc_e (e_skip rfl rfl ?_)
    refine vc_y rfl rfl (y_pickf rfl rfl) ?_
    refine vc_end (vq_then (vc_keep [(0, _), (1, _), (4, _), (7, _), (67, _)] ⟨rfl, rfl, rfl, rfl, rfl, trivial⟩ ?_))
    refine vc_iff rfl ?_
    refine vc_exit (vq_then_exit (vq_then_exit (vq_block_exit (vq_then (vc_keep [(0, _), (1, _), (4, _), (7, _)] ⟨rfl, rfl, rfl, rfl, trivial⟩ (vc_seq (vc_region ?_)))))))
    iterate 3 refine vc_y rfl rfl (y_mv rfl) ?_
    refine vc_y rfl rfl (y_sls (i := i) (j := j) rfl rfl rfl underlying9 rfl rfl (by omega) (by omega)) ?_
    refine vc_e (e_call [_] rfl rfl call78 rfl (rnumber_any _ _ (by simp; omega)) ?_)
    rintro _ w ⟨rfl, rfl⟩
    refine vc_y rfl rfl (y_mv rfl) ?_
    iterate 2 refine vc_y rfl rfl (y_ext rfl rfl) ?_
    iterate 2 refine vc_y rfl rfl (y_as rfl) ?_
    refine vc_end (vq_then (vc_keep [(0, _), (1, _), (4, _), (7, _), (9, _), (10, _)] ⟨rfl, rfl, rfl, rfl, rfl, rfl, trivial⟩ (vc_seq (vc_seq (vc_region ?_)))))
    refine vc_y rfl rfl (y_mv rfl) ?_
    refine vc_y rfl rfl (y_not rfl) ?_
    refine vc_end (vq_then (vc_keep [(0, _), (1, _), (4, _), (7, _), (9, _), (79, _)] ⟨rfl, rfl, rfl, rfl, rfl, rfl, trivial⟩ ?_))
    refine vc_ifs rfl ?_ ?_
    ·
     intro hc79
     try simp only [dn] at hc79
     refine vc_seq (vc_region ?_)
     refine vc_y rfl rfl (y_bld (.agg #[_, _, _, _]) [] rfl (fun w => by simp [Instr.build, go_sem] <;> repeat' constructor)) ?_
     refine vc_y rfl rfl (y_mv rfl) ?_
     refine vc_e (e_sts (vs := [_, _, _, _]) st 0 rfl rfl rfl rfl rfl sizeOf82 rfl rfl (by first | (right; assumption) | (left; simp)) ?_)
     intro w st; dsimp only [setNth, wr] at st
     iterate 2 refine vc_y rfl rfl (y_as rfl) ?_
     refine vc_end (vq_then (vc_keep [(4, _), (5, _), (6, _)] ⟨rfl, rfl, rfl, trivial⟩ (vc_ret (vq_then_ret (vq_block_ret (vq_then_ret ?_))))))
     refine vq_ret3 st (.inl rfl) results63 (by exact .cell 0 rfl rfl isAgg82 sizeOf82) (.tmp rfl) (.tmp rfl) ?_
     refine ⟨_, rfl, ?_⟩
     have hlen : (List.take (j - i) (List.drop i s)).length = j - i := by simp; omega
     refine ⟨?_, st.chg⟩
     rw [numR_tok hi (by assumption) (by assumption), hT, hlen, show i + (j - i) = j by omega]
     first
     | (rw [if_pos (by assumption)]; exact ⟨_, _, _, _, rfl⟩)
     | (rw [if_neg (by rw [hc79]; simp), if_pos ⟨by omega, by assumption⟩]; exact ⟨_, _, _, _, rfl⟩)
     | (rw [if_neg (by rw [hc79]; simp), if_neg (by rintro ⟨h1, h2⟩; first | omega | simp_all)]; rfl)
    ·
     intro hc79
     try simp only [dn] at hc79
     refine vc_code_skip (vq_then (vc_keep [(0, _), (1, _), (4, _), (7, _), (9, _)] ⟨rfl, rfl, rfl, rfl, rfl, trivial⟩ (vc_seq (vc_seq (vc_region ?_)))))
     iterate 2 refine vc_y rfl rfl (y_mv rfl) ?_
     refine vc_y rfl rfl (y_lens rfl underlying9) ?_
     refine vc_y rfl rfl (y_lss rfl rfl) ?_
     refine vc_e (e_mvb rfl rfl rfl ?_ ?_)
     ·
      intro hg86
      try simp only [dn] at hg86
      iterate 2 refine vc_y rfl rfl (y_mv rfl) ?_
      refine vc_y rfl rfl (y_ixs (k := j) rfl rfl underlying9 rfl (by omega)) ?_
      refine vc_e (e_call [_] rfl rfl call75 rfl (rletter_any _ _) ?_)
      rintro _ w ⟨rfl, rfl⟩
      refine vc_y rfl rfl (y_pickt rfl rfl) ?_
      refine vc_end (vq_then (vc_keep [(0, _), (1, _), (4, _), (7, _), (9, _), (91, _)] ⟨rfl, rfl, rfl, rfl, rfl, rfl, trivial⟩ ?_))
      refine vc_ifs rfl ?_ ?_
      ·
       intro hc91
       try simp only [dn] at hc91
       refine vc_seq (vc_region ?_)
       refine vc_y rfl rfl (y_bld (.agg #[_, _, _, _]) [] rfl (fun w => by simp [Instr.build, go_sem] <;> repeat' constructor)) ?_
       refine vc_y rfl rfl (y_mv rfl) ?_
       refine vc_e (e_sts (vs := [_, _, _, _]) st 0 rfl rfl rfl rfl rfl sizeOf82 rfl rfl (by first | (right; assumption) | (left; simp)) ?_)
       intro w st; dsimp only [setNth, wr] at st
       iterate 2 refine vc_y rfl rfl (y_as rfl) ?_
       refine vc_end (vq_then (vc_keep [(4, _), (5, _), (6, _)] ⟨rfl, rfl, rfl, trivial⟩ (vc_ret (vq_then_ret (vq_block_ret (vq_then_ret ?_))))))
       refine vq_ret3 st (.inl rfl) results63 (by exact .cell 0 rfl rfl isAgg82 sizeOf82) (.tmp rfl) (.tmp rfl) ?_
       refine ⟨_, rfl, ?_⟩
       have hlen : (List.take (j - i) (List.drop i s)).length = j - i := by simp; omega
       refine ⟨?_, st.chg⟩
       rw [numR_tok hi (by assumption) (by assumption), hT, hlen, show i + (j - i) = j by omega]
       first
       | (rw [if_pos (by assumption)]; exact ⟨_, _, _, _, rfl⟩)
       | (rw [if_neg (by rw [hc79]; simp), if_pos ⟨by omega, by assumption⟩]; exact ⟨_, _, _, _, rfl⟩)
       | (rw [if_neg (by rw [hc79]; simp), if_neg (by rintro ⟨h1, h2⟩; first | omega | simp_all)]; rfl)
      ·
       intro hc91
       try simp only [dn] at hc91
       refine vc_code_skip (vq_then (vc_keep [(0, _), (1, _), (4, _), (7, _), (9, _)] ⟨rfl, rfl, rfl, rfl, rfl, trivial⟩ (vc_seq (vc_region ?_))))
       iterate 3 refine vc_y rfl rfl (y_mv rfl) ?_
       refine vc_y rfl rfl (y_sls (i := i) (j := j) rfl rfl rfl underlying9 rfl rfl (by omega) (by omega)) ?_
       iterate 2 refine vc_y rfl rfl (y_mv rfl) ?_
       refine vc_y rfl rfl (y_bld (.agg #[_, _, _, _]) [(0, _), (1, _), (2, _), (3, _)] rfl (fun w => by simp [Instr.build, go_sem] <;> repeat' constructor)) ?_
       refine vc_e (e_sts (vs := [_, _, _, _]) st 0 rfl rfl rfl rfl rfl sizeOf82 rfl rfl (by first | (right; assumption) | (left; simp)) ?_)
       intro w st; dsimp only [setNth, wr] at st
       iterate 2 refine vc_y rfl rfl (y_as rfl) ?_
       refine vc_end (vq_then (vc_keep [(4, _), (5, _), (6, _)] ⟨rfl, rfl, rfl, trivial⟩ (vc_ret (vq_block_ret (vq_then_ret ?_)))))
       refine vq_ret3 st (.inl rfl) results63 (by exact .cell 0 rfl rfl isAgg82 sizeOf82) (.tmp rfl) (.tmp rfl) ?_
       refine ⟨_, rfl, ?_⟩
       have hlen : (List.take (j - i) (List.drop i s)).length = j - i := by simp; omega
       refine ⟨?_, st.chg⟩
       rw [numR_tok hi (by assumption) (by assumption), hT, hlen, show i + (j - i) = j by omega]
       first
       | (rw [if_pos (by assumption)]; exact ⟨_, _, _, _, rfl⟩)
       | (rw [if_neg (by rw [hc79]; simp), if_pos ⟨by omega, by assumption⟩]; exact ⟨_, _, _, _, rfl⟩)
       | (rw [if_neg (by rw [hc79]; simp), if_neg (by rintro ⟨h1, h2⟩; first | omega | simp_all)]; rfl)
     ·
      intro hg86
      try simp only [dn] at hg86
      iterate 4 refine vc_e (e_skip rfl rfl ?_)
      refine vc_y rfl rfl (y_pickf rfl rfl) ?_
      refine vc_end (vq_then (vc_keep [(0, _), (1, _), (4, _), (7, _), (9, _), (91, _)] ⟨rfl, rfl, rfl, rfl, rfl, rfl, trivial⟩ ?_))
      refine vc_iff rfl ?_
      refine vc_code_skip (vq_then (vc_keep [(0, _), (1, _), (4, _), (7, _), (9, _)] ⟨rfl, rfl, rfl, rfl, rfl, trivial⟩ (vc_seq (vc_region ?_))))
      iterate 3 refine vc_y rfl rfl (y_mv rfl) ?_
      refine vc_y rfl rfl (y_sls (i := i) (j := j) rfl rfl rfl underlying9 rfl rfl (by omega) (by omega)) ?_
      iterate 2 refine vc_y rfl rfl (y_mv rfl) ?_
      refine vc_y rfl rfl (y_bld (.agg #[_, _, _, _]) [(0, _), (1, _), (2, _), (3, _)] rfl (fun w => by simp [Instr.build, go_sem] <;> repeat' constructor)) ?_
      refine vc_e (e_sts (vs := [_, _, _, _]) st 0 rfl rfl rfl rfl rfl sizeOf82 rfl rfl (by first | (right; assumption) | (left; simp)) ?_)
      intro w st; dsimp only [setNth, wr] at st
      iterate 2 refine vc_y rfl rfl (y_as rfl) ?_
      refine vc_end (vq_then (vc_keep [(4, _), (5, _), (6, _)] ⟨rfl, rfl, rfl, trivial⟩ (vc_ret (vq_block_ret (vq_then_ret ?_)))))
      refine vq_ret3 st (.inl rfl) results63 (by exact .cell 0 rfl rfl isAgg82 sizeOf82) (.tmp rfl) (.tmp rfl) ?_
      refine ⟨_, rfl, ?_⟩
      have hlen : (List.take (j - i) (List.drop i s)).length = j - i := by simp; omega
      refine ⟨?_, st.chg⟩
      rw [numR_tok hi (by assumption) (by assumption), hT, hlen, show i + (j - i) = j by omega]
      first
      | (rw [if_pos (by assumption)]; exact ⟨_, _, _, _, rfl⟩)
      | (rw [if_neg (by rw [hc79]; simp), if_pos ⟨by omega, by assumption⟩]; exact ⟨_, _, _, _, rfl⟩)
      | (rw [if_neg (by rw [hc79]; simp), if_neg (by rintro ⟨h1, h2⟩; first | omega | simp_all)]; rfl)
  ·
   intro hc53
   try simp only [dn] at hc53
   refine vc_seq (vc_region ?_)
   refine vc_y rfl rfl (y_mv rfl) ?_
   refine vc_y rfl rfl (y_add rfl rfl (by omega : _ = ((i + 2 : Nat) : Int)) (by omega) (by omega)) ?_
   refine vc_y rfl rfl (y_mv rfl) ?_
   refine vc_y rfl rfl (y_lens rfl underlying9) ?_
   refine vc_y rfl rfl (y_leq rfl rfl) ?_
   refine vc_e (e_mvb rfl rfl rfl ?_ ?_)
   ·
    intro hg107
    try simp only [dn] at hg107
    iterate 3 refine vc_y rfl rfl (y_mv rfl) ?_
    refine vc_y rfl rfl (y_add rfl rfl (by omega : _ = ((i + 2 : Nat) : Int)) (by omega) (by omega)) ?_
    refine vc_y rfl rfl (y_sls (i := i) (j := (i + 2)) rfl rfl rfl underlying9 rfl rfl (by omega) (by omega)) ?_
    refine vc_e (e_call [_] rfl rfl call79 rfl (rsign_any _ _) ?_)
    rintro _ w ⟨rfl, rfl⟩
    refine vc_y rfl rfl (y_pickt rfl rfl) ?_
    refine vc_y rfl rfl (y_as rfl) ?_
    refine vc_end (vq_then (vc_keep [(0, _), (1, _), (4, _), (101, _)] ⟨rfl, rfl, rfl, rfl, trivial⟩ ?_))
    refine vc_ifs rfl ?_ ?_
    ·
     intro hc101
     try simp only [dn] at hc101
     refine vc_seq (vc_region ?_)
     iterate 3 refine vc_y rfl rfl (y_mv rfl) ?_
     refine vc_y rfl rfl (y_add rfl rfl (by omega : _ = ((i + 2 : Nat) : Int)) (by omega) (by omega)) ?_
     refine vc_y rfl rfl (y_sls (i := i) (j := (i + 2)) rfl rfl rfl underlying9 rfl rfl (by omega) (by omega)) ?_
     refine vc_y rfl rfl (y_mv rfl) ?_
     refine vc_y rfl rfl (y_bld (.agg #[_, _, _, _]) [(0, _), (1, _), (3, _)] rfl (fun w => by simp [Instr.build, go_sem] <;> repeat' constructor)) ?_
     refine vc_e (e_sts (vs := [_, _, _, _]) st 0 rfl rfl rfl rfl rfl sizeOf82 rfl rfl (by first | (right; assumption) | (left; simp)) ?_)
     intro w st; dsimp only [setNth, wr] at st
     iterate 2 refine vc_y rfl rfl (y_as rfl) ?_
     refine vc_end (vq_then (vc_keep [(4, _), (5, _), (6, _)] ⟨rfl, rfl, rfl, trivial⟩ (vc_ret (vq_block_ret (vq_then_ret ?_)))))
     refine vq_ret3 st (.inl rfl) results63 (by exact .cell 0 rfl rfl isAgg82 sizeOf82) (.tmp rfl) (.tmp rfl) ?_
     refine ⟨_, rfl, ?_⟩
     refine ⟨?_, st.chg⟩
     rw [tokAt_sign hi (by assumption) (by assumption)]
     simp only [show i + 2 - i = 2 by omega, show i + 1 - i = 1 by omega] at *
     have h2l : (List.take 2 (List.drop i s)).length = min 2 (s.length - i) := by simp
     have h1l : (List.take 1 (List.drop i s)).length = 1 := by simp; omega
     have e1 : isSign (List.take 1 (List.drop i s)) = isSign1 (List.take 1 (List.drop i s)) := by
      unfold isSign
      cases h : isSign2 (List.take 1 (List.drop i s))
      ·
       rfl
      ·
       have := isSign2_len h; omega
     have e2 : isSign2 (List.take 2 (List.drop i s)) = if i + 2 ≤ s.length then isSign (List.take 2 (List.drop i s)) else false := by
      split
      ·
       unfold isSign
       cases h : isSign1 (List.take 2 (List.drop i s))
       ·
        simp
       ·
        have := isSign1_len h; omega
      ·
       cases h : isSign2 (List.take 2 (List.drop i s))
       ·
        rfl
       ·
        have := isSign2_len h; omega
     first
     | (rw [if_pos (by rw [e2, if_pos (by omega)]; assumption)]; rfl)
     | (rw [if_neg (by rw [e2, if_pos (by omega)]; simp only [*]; simp), if_pos (by rw [← e1]; assumption)]; rfl)
     | (rw [if_neg (by rw [e2, if_neg (by omega)]; simp), if_pos (by rw [← e1]; assumption)]; rfl)
     | (rw [if_neg (by rw [e2, if_pos (by omega)]; simp only [*]; simp), if_neg (by rw [← e1]; simp only [*]; simp)]; exact ⟨_, _, _, _, rfl⟩)
     | (rw [if_neg (by rw [e2, if_neg (by omega)]; simp), if_neg (by rw [← e1]; simp only [*]; simp)]; exact ⟨_, _, _, _, rfl⟩)
    ·
     intro hc101
     try simp only [dn] at hc101
     refine vc_seq (vc_region ?_)
     iterate 3 refine vc_y rfl rfl (y_mv rfl) ?_
     refine vc_y rfl rfl (y_add rfl rfl (by omega : _ = ((i + 1 : Nat) : Int)) (by omega) (by omega)) ?_
     refine vc_y rfl rfl (y_sls (i := i) (j := (i + 1)) rfl rfl rfl underlying9 rfl rfl (by omega) (by omega)) ?_
     refine vc_e (e_call [_] rfl rfl call79 rfl (rsign_any _ _) ?_)
     rintro _ w ⟨rfl, rfl⟩
     refine vc_y rfl rfl (y_as rfl) ?_
     refine vc_end (vq_then (vc_keep [(0, _), (1, _), (4, _), (122, _)] ⟨rfl, rfl, rfl, rfl, trivial⟩ ?_))
     refine vc_ifs rfl ?_ ?_
     ·
      intro hc122
      try simp only [dn] at hc122
      refine vc_seq (vc_region ?_)
      iterate 3 refine vc_y rfl rfl (y_mv rfl) ?_
      refine vc_y rfl rfl (y_add rfl rfl (by omega : _ = ((i + 1 : Nat) : Int)) (by omega) (by omega)) ?_
      refine vc_y rfl rfl (y_sls (i := i) (j := (i + 1)) rfl rfl rfl underlying9 rfl rfl (by omega) (by omega)) ?_
      refine vc_y rfl rfl (y_mv rfl) ?_
      refine vc_y rfl rfl (y_bld (.agg #[_, _, _, _]) [(0, _), (1, _), (3, _)] rfl (fun w => by simp [Instr.build, go_sem] <;> repeat' constructor)) ?_
      refine vc_e (e_sts (vs := [_, _, _, _]) st 0 rfl rfl rfl rfl rfl sizeOf82 rfl rfl (by first | (right; assumption) | (left; simp)) ?_)
      intro w st; dsimp only [setNth, wr] at st
      iterate 2 refine vc_y rfl rfl (y_as rfl) ?_
      refine vc_end (vq_then (vc_keep [(4, _), (5, _), (6, _)] ⟨rfl, rfl, rfl, trivial⟩ (vc_ret (vq_block_ret (vq_then_ret ?_)))))
      refine vq_ret3 st (.inl rfl) results63 (by exact .cell 0 rfl rfl isAgg82 sizeOf82) (.tmp rfl) (.tmp rfl) ?_
      refine ⟨_, rfl, ?_⟩
      refine ⟨?_, st.chg⟩
      rw [tokAt_sign hi (by assumption) (by assumption)]
      simp only [show i + 2 - i = 2 by omega, show i + 1 - i = 1 by omega] at *
      have h2l : (List.take 2 (List.drop i s)).length = min 2 (s.length - i) := by simp
      have h1l : (List.take 1 (List.drop i s)).length = 1 := by simp; omega
      have e1 : isSign (List.take 1 (List.drop i s)) = isSign1 (List.take 1 (List.drop i s)) := by
       unfold isSign
       cases h : isSign2 (List.take 1 (List.drop i s))
       ·
        rfl
       ·
        have := isSign2_len h; omega
      have e2 : isSign2 (List.take 2 (List.drop i s)) = if i + 2 ≤ s.length then isSign (List.take 2 (List.drop i s)) else false := by
       split
       ·
        unfold isSign
        cases h : isSign1 (List.take 2 (List.drop i s))
        ·
         simp
        ·
         have := isSign1_len h; omega
       ·
        cases h : isSign2 (List.take 2 (List.drop i s))
        ·
         rfl
        ·
         have := isSign2_len h; omega
      first
      | (rw [if_pos (by rw [e2, if_pos (by omega)]; assumption)]; rfl)
      | (rw [if_neg (by rw [e2, if_pos (by omega)]; simp only [*]; simp), if_pos (by rw [← e1]; assumption)]; rfl)
      | (rw [if_neg (by rw [e2, if_neg (by omega)]; simp), if_pos (by rw [← e1]; assumption)]; rfl)
      | (rw [if_neg (by rw [e2, if_pos (by omega)]; simp only [*]; simp), if_neg (by rw [← e1]; simp only [*]; simp)]; exact ⟨_, _, _, _, rfl⟩)
      | (rw [if_neg (by rw [e2, if_neg (by omega)]; simp), if_neg (by rw [← e1]; simp only [*]; simp)]; exact ⟨_, _, _, _, rfl⟩)
     ·
      intro hc122
      try simp only [dn] at hc122
      refine vc_code_skip (vq_block (vq_then (vc_keep [(1, _), (4, _)] ⟨rfl, rfl, trivial⟩ (vc_seq (vc_region ?_)))))
      refine vc_y rfl rfl (y_bld (.agg #[_, _, _, _]) [] rfl (fun w => by simp [Instr.build, go_sem] <;> repeat' constructor)) ?_
      refine vc_y rfl rfl (y_mv rfl) ?_
      refine vc_e (e_sts (vs := [_, _, _, _]) st 0 rfl rfl rfl rfl rfl sizeOf82 rfl rfl (by first | (right; assumption) | (left; simp)) ?_)
      intro w st; dsimp only [setNth, wr] at st
      iterate 2 refine vc_y rfl rfl (y_as rfl) ?_
      refine vc_end (vq_then (vc_keep [(4, _), (5, _), (6, _)] ⟨rfl, rfl, rfl, trivial⟩ (vc_ret ?_)))
      refine vq_ret3 st (.inl rfl) results63 (by exact .cell 0 rfl rfl isAgg82 sizeOf82) (.tmp rfl) (.tmp rfl) ?_
      refine ⟨_, rfl, ?_⟩
      refine ⟨?_, st.chg⟩
      rw [tokAt_sign hi (by assumption) (by assumption)]
      simp only [show i + 2 - i = 2 by omega, show i + 1 - i = 1 by omega] at *
      have h2l : (List.take 2 (List.drop i s)).length = min 2 (s.length - i) := by simp
      have h1l : (List.take 1 (List.drop i s)).length = 1 := by simp; omega
      have e1 : isSign (List.take 1 (List.drop i s)) = isSign1 (List.take 1 (List.drop i s)) := by
       unfold isSign
       cases h : isSign2 (List.take 1 (List.drop i s))
       ·
        rfl
       ·
        have := isSign2_len h; omega
      have e2 : isSign2 (List.take 2 (List.drop i s)) = if i + 2 ≤ s.length then isSign (List.take 2 (List.drop i s)) else false := by
       split
       ·
        unfold isSign
        cases h : isSign1 (List.take 2 (List.drop i s))
        ·
         simp
        ·
         have := isSign1_len h; omega
       ·
        cases h : isSign2 (List.take 2 (List.drop i s))
        ·
         rfl
        ·
         have := isSign2_len h; omega
      first
      | (rw [if_pos (by rw [e2, if_pos (by omega)]; assumption)]; rfl)
      | (rw [if_neg (by rw [e2, if_pos (by omega)]; simp only [*]; simp), if_pos (by rw [← e1]; assumption)]; rfl)
      | (rw [if_neg (by rw [e2, if_neg (by omega)]; simp), if_pos (by rw [← e1]; assumption)]; rfl)
      | (rw [if_neg (by rw [e2, if_pos (by omega)]; simp only [*]; simp), if_neg (by rw [← e1]; simp only [*]; simp)]; exact ⟨_, _, _, _, rfl⟩)
      | (rw [if_neg (by rw [e2, if_neg (by omega)]; simp), if_neg (by rw [← e1]; simp only [*]; simp)]; exact ⟨_, _, _, _, rfl⟩)
   ·
    intro hg107
    try simp only [dn] at hg107
    iterate 6 refine vc_e (e_skip rfl rfl ?_)
    refine vc_y rfl rfl (y_pickf rfl rfl) ?_
    refine vc_y rfl rfl (y_as rfl) ?_
    refine vc_end (vq_then (vc_keep [(0, _), (1, _), (4, _), (101, _)] ⟨rfl, rfl, rfl, rfl, trivial⟩ ?_))
    refine vc_iff rfl ?_
    refine vc_seq (vc_region ?_)
    iterate 3 refine vc_y rfl rfl (y_mv rfl) ?_
    refine vc_y rfl rfl (y_add rfl rfl (by omega : _ = ((i + 1 : Nat) : Int)) (by omega) (by omega)) ?_
    refine vc_y rfl rfl (y_sls (i := i) (j := (i + 1)) rfl rfl rfl underlying9 rfl rfl (by omega) (by omega)) ?_
    refine vc_e (e_call [_] rfl rfl call79 rfl (rsign_any _ _) ?_)
    rintro _ w ⟨rfl, rfl⟩
    refine vc_y rfl rfl (y_as rfl) ?_
    refine vc_end (vq_then (vc_keep [(0, _), (1, _), (4, _), (122, _)] ⟨rfl, rfl, rfl, rfl, trivial⟩ ?_))
    refine vc_ifs rfl ?_ ?_
    ·
     intro hc122
     try simp only [dn] at hc122
     refine vc_seq (vc_region ?_)
     iterate 3 refine vc_y rfl rfl (y_mv rfl) ?_
     refine vc_y rfl rfl (y_add rfl rfl (by omega : _ = ((i + 1 : Nat) : Int)) (by omega) (by omega)) ?_
     refine vc_y rfl rfl (y_sls (i := i) (j := (i + 1)) rfl rfl rfl underlying9 rfl rfl (by omega) (by omega)) ?_
     refine vc_y rfl rfl (y_mv rfl) ?_
     refine vc_y rfl rfl (y_bld (.agg #[_, _, _, _]) [(0, _), (1, _), (3, _)] rfl (fun w => by simp [Instr.build, go_sem] <;> repeat' constructor)) ?_
     refine vc_e (e_sts (vs := [_, _, _, _]) st 0 rfl rfl rfl rfl rfl sizeOf82 rfl rfl (by first | (right; assumption) | (left; simp)) ?_)
     intro w st; dsimp only [setNth, wr] at st
     iterate 2 refine vc_y rfl rfl (y_as rfl) ?_
     refine vc_end (vq_then (vc_keep [(4, _), (5, _), (6, _)] ⟨rfl, rfl, rfl, trivial⟩ (vc_ret (vq_block_ret (vq_then_ret ?_)))))
     refine vq_ret3 st (.inl rfl) results63 (by exact .cell 0 rfl rfl isAgg82 sizeOf82) (.tmp rfl) (.tmp rfl) ?_
     refine ⟨_, rfl, ?_⟩
     refine ⟨?_, st.chg⟩
     rw [tokAt_sign hi (by assumption) (by assumption)]
     simp only [show i + 2 - i = 2 by omega, show i + 1 - i = 1 by omega] at *
     have h2l : (List.take 2 (List.drop i s)).length = min 2 (s.length - i) := by simp
     have h1l : (List.take 1 (List.drop i s)).length = 1 := by simp; omega
     have e1 : isSign (List.take 1 (List.drop i s)) = isSign1 (List.take 1 (List.drop i s)) := by
      unfold isSign
      cases h : isSign2 (List.take 1 (List.drop i s))
      ·
       rfl
      ·
       have := isSign2_len h; omega
     have e2 : isSign2 (List.take 2 (List.drop i s)) = if i + 2 ≤ s.length then isSign (List.take 2 (List.drop i s)) else false := by
      split
      ·
       unfold isSign
       cases h : isSign1 (List.take 2 (List.drop i s))
       ·
        simp
       ·
        have := isSign1_len h; omega
      ·
       cases h : isSign2 (List.take 2 (List.drop i s))
       ·
        rfl
       ·
        have := isSign2_len h; omega
     first
     | (rw [if_pos (by rw [e2, if_pos (by omega)]; assumption)]; rfl)
     | (rw [if_neg (by rw [e2, if_pos (by omega)]; simp only [*]; simp), if_pos (by rw [← e1]; assumption)]; rfl)
     | (rw [if_neg (by rw [e2, if_neg (by omega)]; simp), if_pos (by rw [← e1]; assumption)]; rfl)
     | (rw [if_neg (by rw [e2, if_pos (by omega)]; simp only [*]; simp), if_neg (by rw [← e1]; simp only [*]; simp)]; exact ⟨_, _, _, _, rfl⟩)
     | (rw [if_neg (by rw [e2, if_neg (by omega)]; simp), if_neg (by rw [← e1]; simp only [*]; simp)]; exact ⟨_, _, _, _, rfl⟩)
    ·
     intro hc122
     try simp only [dn] at hc122
     refine vc_code_skip (vq_block (vq_then (vc_keep [(1, _), (4, _)] ⟨rfl, rfl, trivial⟩ (vc_seq (vc_region ?_)))))
     refine vc_y rfl rfl (y_bld (.agg #[_, _, _, _]) [] rfl (fun w => by simp [Instr.build, go_sem] <;> repeat' constructor)) ?_
     refine vc_y rfl rfl (y_mv rfl) ?_
     refine vc_e (e_sts (vs := [_, _, _, _]) st 0 rfl rfl rfl rfl rfl sizeOf82 rfl rfl (by first | (right; assumption) | (left; simp)) ?_)
     intro w st; dsimp only [setNth, wr] at st
     iterate 2 refine vc_y rfl rfl (y_as rfl) ?_
     refine vc_end (vq_then (vc_keep [(4, _), (5, _), (6, _)] ⟨rfl, rfl, rfl, trivial⟩ (vc_ret ?_)))
     refine vq_ret3 st (.inl rfl) results63 (by exact .cell 0 rfl rfl isAgg82 sizeOf82) (.tmp rfl) (.tmp rfl) ?_
     refine ⟨_, rfl, ?_⟩
     refine ⟨?_, st.chg⟩
     rw [tokAt_sign hi (by assumption) (by assumption)]
     simp only [show i + 2 - i = 2 by omega, show i + 1 - i = 1 by omega] at *
     have h2l : (List.take 2 (List.drop i s)).length = min 2 (s.length - i) := by simp
     have h1l : (List.take 1 (List.drop i s)).length = 1 := by simp; omega
     have e1 : isSign (List.take 1 (List.drop i s)) = isSign1 (List.take 1 (List.drop i s)) := by
      unfold isSign
      cases h : isSign2 (List.take 1 (List.drop i s))
      ·
       rfl
      ·
       have := isSign2_len h; omega
     have e2 : isSign2 (List.take 2 (List.drop i s)) = if i + 2 ≤ s.length then isSign (List.take 2 (List.drop i s)) else false := by
      split
      ·
       unfold isSign
       cases h : isSign1 (List.take 2 (List.drop i s))
       ·
        simp
       ·
        have := isSign1_len h; omega
      ·
       cases h : isSign2 (List.take 2 (List.drop i s))
       ·
        rfl
       ·
        have := isSign2_len h; omega
     first
     | (rw [if_pos (by rw [e2, if_pos (by omega)]; assumption)]; rfl)
     | (rw [if_neg (by rw [e2, if_pos (by omega)]; simp only [*]; simp), if_pos (by rw [← e1]; assumption)]; rfl)
     | (rw [if_neg (by rw [e2, if_neg (by omega)]; simp), if_pos (by rw [← e1]; assumption)]; rfl)
     | (rw [if_neg (by rw [e2, if_pos (by omega)]; simp only [*]; simp), if_neg (by rw [← e1]; simp only [*]; simp)]; exact ⟨_, _, _, _, rfl⟩)
     | (rw [if_neg (by rw [e2, if_neg (by omega)]; simp), if_neg (by rw [← e1]; simp only [*]; simp)]; exact ⟨_, _, _, _, rfl⟩)

end Go.Proofs.YtggnfanphcaamaaGreatDoor


namespace Go.Proofs.YtggnfanphcaamaaGreatDoor
open Go.ChangeShapes Go.WideShapes Go.ChangeAt Go.RowKit
open Go.ChangeMaps (open_string shut_string)
open Sx LexS
set_option linter.unusedVariables false
set_option linter.unusedSimpArgs false
/-- a token as the memory holds it -/
structure TV where
 k : Int
 t : List UInt8
 wd : Int
 a : Int
/-- one token of the document's, its parts named -/
theorem one_flat {res : TokR} {v : Value} (h : OnePost res v) : ∃ k t wd a rule p, v = .tuple [.agg (tok4 k t wd a).toArray, .int .i64 rule, .int .i64 p].toArray ∧
    ((rule = 0 ∧ p = 0 ∧ ∃ x : Tok, res = .tok x ∧ k = x.kind ∧ t = x.text ∧ wd = x.word ∧ a = x.at_) ∨ ∃ r q : Nat, res = .bad r q ∧ rule = r ∧ p = q) := by
 cases res with
 | tok x => exact ⟨_, _, _, _, _, _, h, .inl ⟨rfl, rfl, x, rfl, rfl, rfl, rfl, rfl⟩⟩
 | bad r q => obtain ⟨k, t, wd, a, hv⟩ := h; exact ⟨k, t, wd, a, _, _, hv, .inr ⟨r, q, rfl, rfl, rfl⟩⟩
def fRule (x : Option (Nat × Nat)) : Nat := match x with | none => 0 | some (r, _) => r
def fAt (x : Option (Nat × Nat)) : Nat := match x with | none => 0 | some (_, p) => p
def FrontPost (s : List UInt8) (w : World) (v : Value) (w' : World) : Prop :=
 Chg [] w w' ∧ ∃ oa cap, v = .tuple [.slice oa (front s).1.length cap, .int .i64 (fRule (front s).2 : Int), .int .i64 (fAt (front s).2 : Int)].toArray ∧
  w'.ownsRow w.heap.size 82 4 (.slice oa (front s).1.length cap) (front s).1.length (toksL (front s).1)

set_option maxHeartbeats 1000000 in
theorem rfront_any (s : List UInt8) (w : World) (hs : s.length ≤ 3000000000000) : Ret Tryz.prog 47 [str s] w (FrontPost s w) := by
 refine ret_of [_] Tryz.func47 rfl Tryz.ntmps47 rfl ?_
 have st := St.init w []
 refine vc_seq ?_
 refine vc_region ?_
 iterate 3 refine vc_y rfl rfl (y_as rfl) ?_
 refine vc_end (vq_then (vc_keep [(0, _)] ⟨rfl, trivial⟩ (vc_seq ?_)))
 refine vc_region ?_
 refine vc_y rfl rfl (y_as rfl) ?_
 refine vc_end (vq_then (vc_keep [(0, _), (5, _)] ⟨rfl, rfl, trivial⟩ (vc_seq (vc_seq ?_))))
 refine vc_region ?_
 refine vc_y rfl rfl (y_mv rfl) ?_
 refine vc_e (e_call [_, _] rfl rfl Tryz.call62 rfl (rskip_any s 0 _ (by omega) (by omega)) ?_)
 rintro _ w ⟨rfl, rfl⟩
 replace st := st.ownNil 82 4
 refine vc_y rfl rfl (y_as rfl) ?_
 refine vc_end (vq_then (vc_keep [(0, _), (5, _), (6, _)] ⟨rfl, rfl, rfl, trivial⟩ (vc_block ?_)))
 refine vc_loop (w0 := _) (M := _) (fun (x : List Tok × Nat × Option Addr × Nat) => [(0, str s), (5, .slice x.2.2.1 x.1.length x.2.2.2), (6, .int .i64 ((x.2.1 + skip (s.drop x.2.1) : Nat) : Int))]) (fun x => [.own (.slice x.2.2.1 x.1.length x.2.2.2) 82 4 x.1.length (toksL x.1)]) (fun x _ => x.2.1 ≤ s.length ∧ x.1.length ≤ x.2.1 ∧ (front s).1 = x.1 ++ (scanA (s.drop x.2.1) x.2.1).1 ∧ (front s).2 = (scanA (s.drop x.2.1) x.2.1).2) (fun x => s.length - x.2.1) ([], 0, none, 0) ⟨rfl, rfl, rfl, trivial⟩ st ⟨by simp, by simp, by simp [front_eq], by simp [front_eq]⟩ ?_
 rintro ⟨l, i, oa, cap⟩ w ⟨hi, hli, hf1, hf2⟩ st
 dsimp only at *
 refine vc_seq (vc_seq ?_)
 refine vc_region ?_
 iterate 2 refine vc_y rfl rfl (y_mv rfl) ?_
 refine vc_y rfl rfl (y_lens rfl Tryz.underlying9) ?_
 refine vc_y rfl rfl (y_lss rfl rfl) ?_
 refine vc_end (vq_then (vc_keep [(0, _), (5, _), (6, _), (15, _)] ⟨rfl, rfl, rfl, rfl, trivial⟩ ?_))
 refine vc_ifs rfl ?_ ?_
 ·
  intro hc15
  try simp only [decide_eq_true_eq, decide_eq_false_iff_not, Bool.not_eq_true', Bool.not_eq_false', Bool.not_eq_true, Bool.not_eq_false, Int.not_lt, Int.not_le, Nat.not_lt, Nat.not_le, Bool.not_true, Bool.not_false, Bool.true_eq_false, Bool.false_eq_true] at hc15
  refine vc_code_skip (vq_then (vc_keep [(0, _), (5, _), (6, _)] ⟨rfl, rfl, rfl, trivial⟩ (vc_seq (vc_block (vc_seq ?_)))))
  refine vc_region ?_
  iterate 2 refine vc_y rfl rfl (y_mv rfl) ?_
  refine vc_e (e_call [_, _] rfl rfl Tryz.call63 rfl (rone_any s (i + skip (s.drop i)) _ (by omega) (by omega)) ?_)
  rintro _ w ⟨hp, cw⟩
  obtain ⟨k, t, wd, a, rule, p, rfl, hrel⟩ := one_flat hp
  replace st := st.call0 cw
  refine vc_y rfl rfl (y_mv rfl) ?_
  iterate 3 refine vc_y rfl rfl (y_ext rfl rfl) ?_
  refine vc_e (e_al (l := [_, _, _, _]) st rfl rfl Tryz.zeroValue82 rfl ?_)
  intro b7 w hb7 st
  first
  | refine vc_e (e_sts (vs := [_, _, _, _]) st 0 rfl rfl rfl rfl rfl Tryz.sizeOf82 rfl rfl (by first | (right; assumption) | (left; simp)) ?_)
  | refine vc_e (e_sts (vs := [_, _, _, _]) st 1 rfl rfl rfl rfl rfl Tryz.sizeOf82 rfl rfl (by first | (right; assumption) | (left; simp)) ?_)
  | refine vc_e (e_sts (vs := [_, _, _, _]) st 2 rfl rfl rfl rfl rfl Tryz.sizeOf82 rfl rfl (by first | (right; assumption) | (left; simp)) ?_)
  | refine vc_e (e_sts (vs := [_, _, _, _]) st 3 rfl rfl rfl rfl rfl Tryz.sizeOf82 rfl rfl (by first | (right; assumption) | (left; simp)) ?_)
  intro w st; dsimp only [setNth, wr] at st
  iterate 2 refine vc_y rfl rfl (y_as rfl) ?_
  refine vc_end (vq_then (vc_keep [(0, _), (5, _), (6, _), (7, _), (8, _), (9, _)] ⟨rfl, rfl, rfl, rfl, rfl, rfl, trivial⟩ (vc_seq (vc_seq ?_))))
  refine vc_region ?_
  refine vc_y rfl rfl (y_mv rfl) ?_
  refine vc_y rfl rfl (y_gtr rfl rfl) ?_
  refine vc_end (vq_then (vc_keep [(0, _), (5, _), (6, _), (7, _), (8, _), (9, _), (27, _)] ⟨rfl, rfl, rfl, rfl, rfl, rfl, rfl, trivial⟩ ?_))
  refine vc_ifs rfl ?_ ?_
  ·
   intro hc27
   try simp only [decide_eq_true_eq, decide_eq_false_iff_not, Bool.not_eq_true', Bool.not_eq_false', Bool.not_eq_true, Bool.not_eq_false, Int.not_lt, Int.not_le, Nat.not_lt, Nat.not_le, Bool.not_true, Bool.not_false, Bool.true_eq_false, Bool.false_eq_true] at hc27
   refine vc_seq ?_
   refine vc_region ?_
   iterate 3 refine vc_y rfl rfl (y_mv rfl) ?_
   iterate 3 refine vc_y rfl rfl (y_as rfl) ?_
   refine vc_end (vq_then (vc_keep [(2, _), (3, _), (4, _)] ⟨rfl, rfl, rfl, trivial⟩ (vc_ret (vq_then_ret (vq_block_ret (vq_then_ret (vq_then_ret (vq_block_ret (vq_then_ret ?_)))))))))
   refine vq_ret3 st (.inl rfl) Tryz.results47 (.tmp rfl) (.tmp rfl) (.tmp rfl) ?_
   refine ⟨_, rfl, ?_⟩
   obtain ⟨r, q, hx, rfl, rfl⟩ : ∃ r q : Nat, tokAt (s.drop (i + skip (s.drop i))) (i + skip (s.drop i)) = .bad r q ∧ rule = r ∧ p = q := by
    rcases hrel with ⟨h, _⟩ | h
    ·
     omega
    ·
     exact h
   have hsc := scanA_bad (r := s.drop i) (i := i) (by simp; omega) (by rw [List.drop_drop]; exact hx)
   have e1 : (front s).1 = l := by rw [hf1, hsc]; simp
   have e2 : (front s).2 = some (r, q) := by rw [hf2, hsc]
   refine ⟨st.chg, oa, cap, ?_, ?_⟩
   ·
    rw [e1, e2]; rfl
   ·
    rw [e1]; exact st.res (i := 1) rfl
  ·
   intro hc27
   try simp only [decide_eq_true_eq, decide_eq_false_iff_not, Bool.not_eq_true', Bool.not_eq_false', Bool.not_eq_true, Bool.not_eq_false, Int.not_lt, Int.not_le, Nat.not_lt, Nat.not_le, Bool.not_true, Bool.not_false, Bool.true_eq_false, Bool.false_eq_true] at hc27
   obtain ⟨rfl, rfl, x, hx, rfl, rfl, rfl, rfl⟩ : rule = 0 ∧ p = 0 ∧ ∃ x : Tok, tokAt (s.drop (i + skip (s.drop i))) (i + skip (s.drop i)) = .tok x ∧ k = x.kind ∧ t = x.text ∧ wd = x.word ∧ a = x.at_ := by
    rcases hrel with h | ⟨r, q, hx, rfl, rfl⟩
    ·
     exact h
    ·
     have := bad_rule hx; omega
   have hx1 := tok_len hx
   have hxl : x.text.length ≤ s.length - (i + skip (List.drop i s)) := by have h := congrArg List.length hx1.2.1; simp at h; omega
   have hsc := scanA_tok (r := s.drop i) (i := i) (by simp; omega) (by rw [List.drop_drop]; exact hx)
   rw [List.drop_drop, ← Nat.add_assoc] at hsc
   refine vc_code_skip (vq_then (vc_keep [(0, _), (5, _), (6, _), (7, _)] ⟨rfl, rfl, rfl, rfl, trivial⟩ (vc_seq ?_)))
   refine vc_region ?_
   refine vc_y rfl rfl (y_mv rfl) ?_
   refine vc_y rfl rfl ((by first | exact y_lda (vs := [_, _, _, _]) st 0 rfl Tryz.isAgg82 Tryz.sizeOf82 rfl rfl | exact y_lda (vs := [_, _, _, _]) st 1 rfl Tryz.isAgg82 Tryz.sizeOf82 rfl rfl | exact y_lda (vs := [_, _, _, _]) st 2 rfl Tryz.isAgg82 Tryz.sizeOf82 rfl rfl | exact y_lda (vs := [_, _, _, _]) st 3 rfl Tryz.isAgg82 Tryz.sizeOf82 rfl rfl)) ?_
   refine vc_e (e_bs1 (l := [_, _, _, _]) st rfl rfl rfl rfl Tryz.underlying45 Tryz.sizeOf82 rfl rfl rfl Tryz.zeroValue82 ?_)
   intro b33 w hb33 st
   refine vc_e (e_app (bytes := 40) st 2 0 rfl rfl rfl rfl rfl rfl Tryz.underlying45 Tryz.info82 rfl rfl rfl rfl rfl (by simp) rfl rfl (by unfold maxLen; omega) (by omega) ?_)
   intro oa34 cap34 w st; dsimp only [setNth] at st
   refine vc_y rfl rfl (y_as rfl) ?_
   refine vc_end (vq_then (vc_keep [(0, _), (5, _), (6, _), (7, _)] ⟨rfl, rfl, rfl, rfl, trivial⟩ ?_))
   refine vc_region ?_
   refine vc_y rfl rfl (y_mv rfl) ?_
   refine vc_y rfl rfl ((by first | exact y_faz (k := 1) rfl Tryz.underlying82 rfl rfl Tryz.sizeOf9 rfl | exact y_fa (k := 1) rfl Tryz.underlying82 rfl rfl Tryz.sizeOf9 rfl)) ?_
   refine vc_y rfl rfl ((by first | exact y_ld st 0 rfl Tryz.isAgg9 rfl rfl | exact y_ld st 1 rfl Tryz.isAgg9 rfl rfl | exact y_ld st 2 rfl Tryz.isAgg9 rfl rfl | exact y_ld st 3 rfl Tryz.isAgg9 rfl rfl)) ?_
   refine vc_y rfl rfl (y_lens rfl Tryz.underlying9) ?_
   refine vc_y rfl rfl (y_add rfl rfl (by omega : _ = ((i + skip (List.drop i s) + x.text.length : Nat) : Int)) (by omega) (by omega)) ?_
   refine vc_y rfl rfl (y_as rfl) ?_
   refine vc_end (vq_block (vq_then (vc_keep [(0, _), (5, _), (6, _)] ⟨rfl, rfl, rfl, trivial⟩ ?_)))
   refine vc_region ?_
   iterate 2 refine vc_y rfl rfl (y_mv rfl) ?_
   refine vc_e (e_call [_, _] rfl rfl Tryz.call62 rfl (rskip_any s (i + skip (List.drop i s) + x.text.length) _ (by omega) (by omega)) ?_)
   rintro _ w ⟨rfl, rfl⟩
   refine vc_y rfl rfl (y_as rfl) ?_
   refine vc_end ?_
   refine vq_again (l ++ [x], i + skip (List.drop i s) + x.text.length, oa34, cap34) ⟨rfl, by simp only [List.length_append, List.length_cons, List.length_nil]; rfl, rfl, trivial⟩ ?_ ⟨by dsimp only; omega, by simp; omega, ?_, ?_⟩ (by dsimp only; omega)
   ·
    simp only [List.length_append, List.length_cons, List.length_nil, toksL_snoc]
    exact st.drop (by repeat (first | exact List.Sublist.slnil | apply List.Sublist.cons_cons | apply List.Sublist.cons))
   ·
    rw [hf1, hsc]; simp
   ·
    rw [hf2, hsc]
 ·
  intro hc15
  try simp only [decide_eq_true_eq, decide_eq_false_iff_not, Bool.not_eq_true', Bool.not_eq_false', Bool.not_eq_true, Bool.not_eq_false, Int.not_lt, Int.not_le, Nat.not_lt, Nat.not_le, Bool.not_true, Bool.not_false, Bool.true_eq_false, Bool.false_eq_true] at hc15
  refine vc_exit (vq_then_exit (vq_then_exit (vq_block_exit (vq_then (vc_keep [(5, _)] ⟨rfl, trivial⟩ (vc_seq ?_))))))
  refine vc_region ?_
  refine vc_y rfl rfl (y_mv rfl) ?_
  iterate 3 refine vc_y rfl rfl (y_as rfl) ?_
  refine vc_end (vq_then (vc_keep [(2, _), (3, _), (4, _)] ⟨rfl, rfl, rfl, trivial⟩ (vc_ret ?_)))
  refine vq_ret3 st (.inl rfl) Tryz.results47 (.tmp rfl) (.tmp rfl) (.tmp rfl) ?_
  refine ⟨_, rfl, ?_⟩
  have hsc := scanA_end (r := s.drop i) (i := i) (by simp; omega)
  have e1 : (front s).1 = l := by rw [hf1, hsc]; simp
  have e2 : (front s).2 = none := by rw [hf2, hsc]
  refine ⟨st.chg, oa, cap, ?_, ?_⟩
  ·
   rw [e1, e2]; rfl
  ·
   rw [e1]; exact st.res (i := 0) rfl

theorem frontFault {s : List UInt8} {r p : Nat} (h : (front s).2 = some (r, p)) : 1 ≤ r := by
 have key : ∀ (n : Nat) (t : List UInt8) (i : Nat), t.length < n → (scanA t i).2 = some (r, p) → 1 ≤ r := by
  intro n
  induction n with
  | zero => intro t i h; omega
  | succ n ih =>
   intro t i hn h
   rcases Nat.lt_or_ge (skip t) t.length with hk | hk
   ·
    cases hx : tokAt (t.drop (skip t)) (i + skip t) with
    | bad rule q => rw [scanA_bad hk hx] at h; have := bad_rule hx; simp at h; omega
    | tok x => rw [scanA_tok hk hx] at h; have := (tok_len hx).1; exact ih _ _ (by simp; omega) h
   ·
    rw [scanA_end hk] at h; simp at h
 exact key _ s 0 (Nat.lt_succ_self _) h

set_option maxHeartbeats 1000000 in
theorem rscan_any (s : List UInt8) (w : World) : Ret Tryz.prog 30 [str s] w (ScanPost s w) := by
 refine ret_of [_] Tryz.func30 rfl Tryz.ntmps30 rfl ?_
 have st := St.init w []
 refine vc_seq ?_
 refine vc_region ?_
 iterate 2 refine vc_y rfl rfl (y_as rfl) ?_
 refine vc_e (e_al (l := [_, _]) st rfl rfl Tryz.zeroValue28 rfl ?_)
 intro b4 w hb4 st
 refine vc_end (vq_then (vc_keep [(0, _), (4, _)] ⟨rfl, rfl, trivial⟩ (vc_seq (vc_seq ?_))))
 refine vc_region ?_
 refine vc_y rfl rfl (y_mv rfl) ?_
 refine vc_y rfl rfl (y_lens rfl Tryz.underlying9) ?_
 refine vc_y rfl rfl (y_gtr rfl rfl) ?_
 refine vc_end (vq_then (vc_keep [(0, _), (4, _), (10, _)] ⟨rfl, rfl, rfl, trivial⟩ ?_))
 refine vc_ifs rfl ?_ ?_
 ·
  intro hc10
  try simp only [decide_eq_true_eq, decide_eq_false_iff_not, Bool.not_eq_true', Bool.not_eq_false', Bool.not_eq_true, Bool.not_eq_false, Int.not_lt, Int.not_le, Nat.not_lt, Nat.not_le, Bool.not_true, Bool.not_false, Bool.true_eq_false, Bool.false_eq_true] at hc10
  refine vc_seq ?_
  refine vc_region ?_
  refine vc_y rfl rfl (y_bld (.agg #[_, _]) [] rfl (fun w => by simp [Instr.build, go_sem] <;> repeat' constructor)) ?_
  iterate 2 refine vc_y rfl rfl (y_as rfl) ?_
  first
  | refine vc_e (e_sts (vs := [_, _]) st 0 rfl rfl rfl rfl rfl Tryz.sizeOf28 rfl rfl (by first | (right; assumption) | (left; simp)) ?_)
  | refine vc_e (e_sts (vs := [_, _]) st 1 rfl rfl rfl rfl rfl Tryz.sizeOf28 rfl rfl (by first | (right; assumption) | (left; simp)) ?_)
  | refine vc_e (e_sts (vs := [_, _]) st 2 rfl rfl rfl rfl rfl Tryz.sizeOf28 rfl rfl (by first | (right; assumption) | (left; simp)) ?_)
  | refine vc_e (e_sts (vs := [_, _]) st 3 rfl rfl rfl rfl rfl Tryz.sizeOf28 rfl rfl (by first | (right; assumption) | (left; simp)) ?_)
  intro w st; dsimp only [setNth, wr] at st
  refine vc_end (vq_then (vc_keep [(2, _), (3, _), (4, _)] ⟨rfl, rfl, rfl, trivial⟩ (vc_ret (vq_then_ret ?_))))
  refine vq_ret3 st (.inl rfl) Tryz.results30 (.tmp rfl) (.tmp rfl) (by first | exact .cell 0 rfl rfl Tryz.isAgg28 Tryz.sizeOf28 | exact .cell 1 rfl rfl Tryz.isAgg28 Tryz.sizeOf28 | exact .cell 2 rfl rfl Tryz.isAgg28 Tryz.sizeOf28 | exact .cell 3 rfl rfl Tryz.isAgg28 Tryz.sizeOf28) ?_
  refine ⟨_, rfl, ?_⟩
  have e : scanRes s = ([], 4, 0, 0) := by unfold scanRes; rw [if_pos (by omega)]
  refine ⟨st.chg, none, 0, ?_, ?_⟩
  ·
   rw [e]; rfl
  ·
   rw [e]; exact World.ownsRow_nil _ _ _ _
 ·
  intro hc10
  try simp only [decide_eq_true_eq, decide_eq_false_iff_not, Bool.not_eq_true', Bool.not_eq_false', Bool.not_eq_true, Bool.not_eq_false, Int.not_lt, Int.not_le, Nat.not_lt, Nat.not_le, Bool.not_true, Bool.not_false, Bool.true_eq_false, Bool.false_eq_true] at hc10
  refine vc_code_skip (vq_then (vc_keep [(0, _), (4, _)] ⟨rfl, rfl, trivial⟩ (vc_seq ?_)))
  refine vc_region ?_
  refine vc_y rfl rfl (y_mv rfl) ?_
  refine vc_e (e_call [_] rfl rfl Tryz.call47 rfl (rfront_any s _ (by omega)) ?_)
  rintro _ w ⟨cw, oa, cap, rfl, how⟩
  replace st := st.pushOwn cw how
  refine vc_y rfl rfl (y_mv rfl) ?_
  iterate 3 refine vc_y rfl rfl (y_ext rfl rfl) ?_
  iterate 3 refine vc_y rfl rfl (y_as rfl) ?_
  refine vc_end (vq_then (vc_keep [(4, _), (5, _), (6, _), (7, _)] ⟨rfl, rfl, rfl, rfl, trivial⟩ (vc_seq (vc_seq ?_))))
  refine vc_region ?_
  refine vc_y rfl rfl (y_mv rfl) ?_
  refine vc_y rfl rfl (y_gtr rfl rfl) ?_
  refine vc_end (vq_then (vc_keep [(4, _), (5, _), (6, _), (7, _), (19, _)] ⟨rfl, rfl, rfl, rfl, rfl, trivial⟩ ?_))
  refine vc_ifs rfl ?_ ?_
  ·
   intro hc19
   try simp only [decide_eq_true_eq, decide_eq_false_iff_not, Bool.not_eq_true', Bool.not_eq_false', Bool.not_eq_true, Bool.not_eq_false, Int.not_lt, Int.not_le, Nat.not_lt, Nat.not_le, Bool.not_true, Bool.not_false, Bool.true_eq_false, Bool.false_eq_true] at hc19
   refine vc_seq ?_
   refine vc_region ?_
   iterate 2 refine vc_y rfl rfl (y_mv rfl) ?_
   refine vc_y rfl rfl (y_bld (.agg #[_, _]) [(0, _), (1, _)] rfl (fun w => by simp [Instr.build, go_sem] <;> repeat' constructor)) ?_
   iterate 2 refine vc_y rfl rfl (y_as rfl) ?_
   first
   | refine vc_e (e_sts (vs := [_, _]) st 0 rfl rfl rfl rfl rfl Tryz.sizeOf28 rfl rfl (by first | (right; assumption) | (left; simp)) ?_)
   | refine vc_e (e_sts (vs := [_, _]) st 1 rfl rfl rfl rfl rfl Tryz.sizeOf28 rfl rfl (by first | (right; assumption) | (left; simp)) ?_)
   | refine vc_e (e_sts (vs := [_, _]) st 2 rfl rfl rfl rfl rfl Tryz.sizeOf28 rfl rfl (by first | (right; assumption) | (left; simp)) ?_)
   | refine vc_e (e_sts (vs := [_, _]) st 3 rfl rfl rfl rfl rfl Tryz.sizeOf28 rfl rfl (by first | (right; assumption) | (left; simp)) ?_)
   intro w st; dsimp only [setNth, wr] at st
   refine vc_end (vq_then (vc_keep [(2, _), (3, _), (4, _)] ⟨rfl, rfl, rfl, trivial⟩ (vc_ret (vq_then_ret ?_))))
   refine vq_ret3 st (.inl rfl) Tryz.results30 (.tmp rfl) (.tmp rfl) (by first | exact .cell 0 rfl rfl Tryz.isAgg28 Tryz.sizeOf28 | exact .cell 1 rfl rfl Tryz.isAgg28 Tryz.sizeOf28 | exact .cell 2 rfl rfl Tryz.isAgg28 Tryz.sizeOf28 | exact .cell 3 rfl rfl Tryz.isAgg28 Tryz.sizeOf28) ?_
   refine ⟨_, rfl, ?_⟩
   obtain ⟨r, q, hx⟩ : ∃ r q, (front s).2 = some (r, q) := by
    cases hx : (front s).2 with
    | none => rw [hx] at hc19; simp [fRule] at hc19
    | some x => exact ⟨x.1, x.2, rfl⟩
   have e : scanRes s = ([], 20, q, r) := by unfold scanRes; rw [if_neg (by omega), hx]
   refine ⟨st.chg, none, 0, ?_, ?_⟩
   ·
    rw [e, hx]; rfl
   ·
    rw [e]; exact World.ownsRow_nil _ _ _ _
  ·
   intro hc19
   try simp only [decide_eq_true_eq, decide_eq_false_iff_not, Bool.not_eq_true', Bool.not_eq_false', Bool.not_eq_true, Bool.not_eq_false, Int.not_lt, Int.not_le, Nat.not_lt, Nat.not_le, Bool.not_true, Bool.not_false, Bool.true_eq_false, Bool.false_eq_true] at hc19
   refine vc_code_skip (vq_then (vc_keep [(4, _), (5, _)] ⟨rfl, rfl, trivial⟩ (vc_seq ?_)))
   refine vc_region ?_
   refine vc_y rfl rfl (y_mv rfl) ?_
   refine vc_y rfl rfl (y_bld (.agg #[_, _]) [] rfl (fun w => by simp [Instr.build, go_sem] <;> repeat' constructor)) ?_
   iterate 2 refine vc_y rfl rfl (y_as rfl) ?_
   first
   | refine vc_e (e_sts (vs := [_, _]) st 0 rfl rfl rfl rfl rfl Tryz.sizeOf28 rfl rfl (by first | (right; assumption) | (left; simp)) ?_)
   | refine vc_e (e_sts (vs := [_, _]) st 1 rfl rfl rfl rfl rfl Tryz.sizeOf28 rfl rfl (by first | (right; assumption) | (left; simp)) ?_)
   | refine vc_e (e_sts (vs := [_, _]) st 2 rfl rfl rfl rfl rfl Tryz.sizeOf28 rfl rfl (by first | (right; assumption) | (left; simp)) ?_)
   | refine vc_e (e_sts (vs := [_, _]) st 3 rfl rfl rfl rfl rfl Tryz.sizeOf28 rfl rfl (by first | (right; assumption) | (left; simp)) ?_)
   intro w st; dsimp only [setNth, wr] at st
   refine vc_end (vq_then (vc_keep [(2, _), (3, _), (4, _)] ⟨rfl, rfl, rfl, trivial⟩ (vc_ret ?_)))
   refine vq_ret3 st (.inl rfl) Tryz.results30 (.tmp rfl) (.tmp rfl) (by first | exact .cell 0 rfl rfl Tryz.isAgg28 Tryz.sizeOf28 | exact .cell 1 rfl rfl Tryz.isAgg28 Tryz.sizeOf28 | exact .cell 2 rfl rfl Tryz.isAgg28 Tryz.sizeOf28 | exact .cell 3 rfl rfl Tryz.isAgg28 Tryz.sizeOf28) ?_
   refine ⟨_, rfl, ?_⟩
   have hx : (front s).2 = none := by
    cases hx : (front s).2 with
    | none => rfl
    | some x => have := frontFault (s := s) (r := x.1) (p := x.2) hx; rw [hx] at hc19; simp only [fRule] at hc19; omega
   have e : scanRes s = ((front s).1, 0, 0, 0) := by unfold scanRes; rw [if_neg (by omega), hx]
   refine ⟨st.chg, oa, cap, ?_, ?_⟩
   ·
    rw [e]; rfl
   ·
    rw [e]; exact st.res (i := 0) rfl

theorem own : ownKnob Tryz.prog.godebug = none := by kernel_rfl
end Go.Proofs.YtggnfanphcaamaaGreatDoor


namespace Go.Proofs.YtggnfanphcaamaaGreatDoor
open Go.RowKit Sx LexS ParS
set_option linter.unusedVariables false
set_option linter.unusedSimpArgs false
/-- a reader at a text's beginning -/
structure RNew (s : List UInt8) (n : Nat) (c : RCtx) (w' : World) : Prop where
  ts : c.ts = (front s).1
  e : c.e = s.length
  n0 : c.n0 = c.rb
  own : w'.ownsRow n 82 4 (.slice c.oa c.ts.length c.cap) c.ts.length (toksL c.ts)
  at_ : RAt c ⟨c.ts, (0, 0)⟩ w'
  le : n ≤ c.rb
  lt : ∀ b ∈ obk c.oa, b < c.rb
  slen : s.length ≤ 65536
theorem RNew.ok {s : List UInt8} {n base : Nat} {c : RCtx} {σ : RS} {w w' : World} (h : RNew s n c w) (hrow : w'.ownsRow base 82 4 (.slice c.oa c.ts.length c.cap) c.ts.length (toksL c.ts)) (hp : RAt c σ w') : RCok c w' := by
  obtain ⟨hlen, hok⟩ := front_ok (s := s) (T := (front s).1) (f := (front s).2) rfl
  have hsc := scan_right (front s).1 s 0 (front s).2 rfl
  rw [← h.ts] at hlen hok hsc
  have := h.slen
  refine ⟨?_, by rw [h.n0]; exact Nat.le_refl _, by omega, by rw [h.e]; omega, by rw [h.n0]; exact Nat.le_of_lt (Array.getElem?_eq_some_iff.1 hp).1, fun t ht => (hok t ht).2.1, fun t ht hk => ?_⟩
  · refine (rowC_own (S := (· < c.n0)) (owns_mono hrow (fun b _ => Nat.zero_le _)) (fun b hb => by rw [h.n0]; exact h.lt b hb)).imp id fun ⟨g, off, e1, hb, hl, hc⟩ => ⟨g, off, e1, hb, hl, fun j hj => ?_⟩
    have := hc j hj
    dsimp only at this
    rw [toks_chunk (List.getElem?_eq_getElem hj)] at this
    simpa only [List.getD, List.getElem?_eq_getElem hj, Option.getD_some] using this
  · have h1 := hsc t ht
    rw [rgt_doc, hk] at h1
    unfold docRight at h1
    simp at h1
    exact h1.1
def RBegun (s : List UInt8) (w : World) (v : Value) (w' : World) : Prop := Chg [] w w' ∧
  ((65536 < s.length ∧ v = .tuple #[.pointer none, .int .i64 4, .agg #[.int .i64 0, .int .i64 0]]) ∨
   (s.length ≤ 65536 ∧ ∃ rule p : Nat, (front s).2 = some (rule, p) ∧ v = .tuple #[.pointer none, .int .i64 30, .agg #[.int .i64 (p : Int), .int .i64 1]]) ∨
   (s.length ≤ 65536 ∧ (front s).2 = none ∧ ∃ c, RNew s w.heap.size c w' ∧ v = .tuple #[.pointer (some ⟨c.rb, 0, none⟩), .int .i64 0, .agg #[.int .i64 0, .int .i64 0]]))
theorem _root_.Sx.St.rnew {s : List UInt8} {c : RCtx} {w w' w0 : World} {M : List Nat} {hs : List Res} (st : St w0 M hs w) (ch : Chg [] w w') (h : RNew s w.heap.size c w') :
    St w0 M (.blk c.rb (.cells (rcell c ⟨c.ts, (0, 0)⟩).toArray c.T (0, 0)) :: .own (.slice c.oa c.ts.length c.cap) 82 4 c.ts.length (toksL c.ts) :: hs) w' :=
  st.push2 ch h.at_ (ownsRow_base h.own st.chg.size) (by simpa [Res.at?] using h.le) (fun k hk => (World.ownsRow.lt h.own k (by simpa [Res.at?] using hk)).1)
    (fun k hk => by
      simp only [Res.at?, List.mem_singleton] at hk
      subst hk
      intro hk'
      simp only [Res.at?, obk_own] at hk'
      exact absurd (h.lt _ hk') (Nat.lt_irrefl _))

theorem rbegun_any (s : List UInt8) (w : World) : Ret Tryz.prog 14 [str s] w (RBegun s w) := by
  refine ret_of [_] Tryz.func14 rfl Tryz.ntmps14 rfl ?_
  have st := St.init w []
  obtain ⟨w0, rfl⟩ : ∃ w0, w0 = w := ⟨_, rfl⟩
  refine vc_seq ?_
  refine vc_region ?_
  refine vc_y rfl rfl (y_as rfl) ?_
  refine vc_y rfl rfl (y_as rfl) ?_
  refine vc_e (e_al (l := [_, _]) st rfl rfl Tryz.zeroValue28 rfl ?_)
  intro b4 w hb4 st
  refine vc_end ?_
  refine vq_then ?_
  refine vc_keep [(0, _), (4, _)] ⟨rfl, rfl, trivial⟩ ?_
  refine vc_seq ?_
  refine vc_seq ?_
  refine vc_region ?_
  refine vc_y rfl rfl (y_mv rfl) ?_
  refine vc_y rfl rfl (y_lens rfl Tryz.underlying9) ?_
  refine vc_y rfl rfl (y_gtr rfl rfl) ?_
  refine vc_end ?_
  refine vq_then ?_
  refine vc_keep [(0, _), (4, _), (10, _)] ⟨rfl, rfl, rfl, trivial⟩ ?_
  refine vc_ifs rfl ?_ ?_
  · intro hc10
    try simp only [dn] at hc10
    have hsl : 65536 < s.length := by omega
    refine vc_seq ?_
    refine vc_region ?_
    refine vc_y rfl rfl (y_bld (.agg #[_, _]) [] rfl (fun w => by simp [Instr.build, go_sem] <;> repeat' constructor)) ?_
    refine vc_y rfl rfl (y_as rfl) ?_
    refine vc_y rfl rfl (y_as rfl) ?_
    refine vc_e (e_sts (vs := [_, _]) st 0 rfl rfl rfl rfl rfl Tryz.sizeOf28 rfl rfl (by first | (right; assumption) | (left; simp)) ?_)
    intro w st; dsimp only [setNth, wr] at st
    refine vc_end ?_
    refine vq_then ?_
    refine vc_keep [(2, _), (3, _), (4, _)] ⟨rfl, rfl, rfl, trivial⟩ ?_
    refine vc_ret ?_
    refine vq_then_ret ?_
    refine vq_ret3 st (.inl rfl) Tryz.results14 (.tmp rfl) (.tmp rfl) (by exact .cell 0 rfl rfl Tryz.isAgg28 Tryz.sizeOf28) ?_
    refine ⟨_, rfl, ?_⟩
    exact ⟨st.chg, .inl ⟨hsl, rfl⟩⟩
  · intro hc10
    try simp only [dn] at hc10
    have hsl : s.length ≤ 65536 := by omega
    refine vc_code_skip ?_
    refine vq_then ?_
    refine vc_keep [(0, _), (4, _)] ⟨rfl, rfl, trivial⟩ ?_
    refine vc_seq ?_
    refine vc_region ?_
    refine vc_y rfl rfl (y_mv rfl) ?_
    refine vc_e (e_call [_] rfl rfl Tryz.call30 rfl (rscan_any s _) ?_)
    rintro _ w ⟨cw, to, tc, rfl, hown⟩
    replace st := St.pushOwn st cw hown
    obtain ⟨T, e, pl, ru, hT⟩ : ∃ T e pl ru, scanRes s = (T, e, pl, ru) := ⟨_, _, _, _, rfl⟩
    rw [hT] at st hown ⊢
    dsimp only at st hown ⊢
    refine vc_y rfl rfl (y_mv rfl) ?_
    refine vc_y rfl rfl (y_ext rfl rfl) ?_
    refine vc_y rfl rfl (y_ext rfl rfl) ?_
    refine vc_y rfl rfl (y_ext rfl rfl) ?_
    refine vc_e (e_al (l := [_, _]) st rfl rfl Tryz.zeroValue28 rfl ?_)
    intro b7 w hb7 st
    refine vc_y rfl rfl (y_as rfl) ?_
    refine vc_y rfl rfl (y_as rfl) ?_
    refine vc_e (e_sts (vs := [_, _]) st 0 rfl rfl rfl rfl rfl Tryz.sizeOf28 rfl rfl (by first | (right; assumption) | (left; simp)) ?_)
    intro w st; dsimp only [setNth, wr] at st
    refine vc_end ?_
    refine vq_then ?_
    refine vc_keep [(0, _), (4, _), (5, _), (6, _), (7, _)] ⟨rfl, rfl, rfl, rfl, rfl, trivial⟩ ?_
    refine vc_seq ?_
    refine vc_seq ?_
    refine vc_region ?_
    refine vc_y rfl rfl (y_mv rfl) ?_
    refine vc_y rfl rfl (y_nei rfl rfl) ?_
    refine vc_end ?_
    refine vq_then ?_
    refine vc_keep [(0, _), (4, _), (5, _), (7, _), (19, _)] ⟨rfl, rfl, rfl, rfl, rfl, trivial⟩ ?_
    refine vc_ifs rfl ?_ ?_
    · intro hc19
      try simp only [dn] at hc19
      have hsc : (front s).2 = some (ru, pl) := by
        unfold scanRes at hT
        rw [if_neg (by omega)] at hT
        split at hT
        · simp only [Prod.mk.injEq] at hT; omega
        · rename_i hf; simp only [Prod.mk.injEq] at hT
          obtain ⟨-, -, rfl, rfl⟩ := hT
          exact hf
      refine vc_seq ?_
      refine vc_draw Tryz.mixed [(0, true), (1, true), (2, true), (3, true), (4, true), (5, false)] (fun w => St _ _ [.blk b7 (.cells [.int .i64 (pl : Int), .int .i64 (ru : Int)].toArray 28 (0, 0))] w) (by exact st.drop (by repeat (first | exact sl0 | apply sl1 | apply sl2))) (by kernel_rfl) (by repeat (first | exact okQ_noPan | exact okQ_body | exact okQ_bodyS | refine okQ_then ?_ | refine okQ_block ?_)) rfl (by kernel_rfl) ?_
      intro w cd; replace st := st.call0 cd; clear cd
      have hS : St _ _ [.blk b7 (.cells [.int .i64 (pl : Int), .int .i64 (ru : Int)].toArray 28 (0, 0))] w := (by exact st.drop (by repeat (first | exact sl0 | apply sl1 | apply sl2)))
      refine vp_take rfl rfl rfl hS (fun w st => y_fa0 rfl Tryz.underlying28 rfl rfl Tryz.sizeOf3 rfl) ?_
      refine vp_take rfl rfl rfl hS (fun w st => (by exact y_ld st 0 rfl Tryz.isAgg3 rfl rfl)) ?_
      refine vp_take rfl rfl rfl hS (fun w st => y_bld (.agg #[_, _]) [(0, _), (1, _)] rfl (fun w => by simp [Instr.build, go_sem] <;> repeat' constructor)) ?_
      refine vp_take rfl rfl rfl hS (fun w st => y_as rfl) ?_
      refine vp_take rfl rfl rfl hS (fun w st => y_as rfl) ?_
      refine vp_do rfl (e_sts (vs := [_, _]) st 2 rfl rfl rfl rfl rfl Tryz.sizeOf28 rfl rfl (by first | (right; assumption) | (left; simp)) ?_)
      intro w st; dsimp only [setNth, wr] at st
      refine vp_next (by exact st.drop (by repeat (first | exact sl0 | apply sl1 | apply sl2))) ?_; intro hS
      refine vp_end ?_
      refine vq_then ?_
      refine vc_keep [(2, _), (3, _), (4, _)] ⟨rfl, rfl, rfl, trivial⟩ ?_
      refine vc_ret ?_
      refine vq_then_ret ?_
      refine vq_ret3 st (.inl rfl) Tryz.results14 (.tmp rfl) (.tmp rfl) (by exact .cell 2 rfl rfl Tryz.isAgg28 Tryz.sizeOf28) ?_
      refine ⟨_, rfl, ?_⟩
      exact ⟨st.chg, .inr (.inl ⟨hsl, ru, pl, hsc, rfl⟩)⟩
    · intro hc19
      try simp only [dn] at hc19
      have he : e = 0 := by omega
      subst he
      have hsc : (front s).2 = none ∧ T = (front s).1 := by
        unfold scanRes at hT
        rw [if_neg (by omega)] at hT
        split at hT
        · rename_i hf; simp only [Prod.mk.injEq] at hT; exact ⟨hf, hT.1.symm⟩
        · cases hT
      obtain ⟨hfr, rfl⟩ := hsc
      obtain ⟨hlen, hok⟩ := front_ok (s := s) (T := (front s).1) (f := (front s).2) rfl
      refine vc_code_skip ?_
      refine vq_then ?_
      refine vc_keep [(0, _), (4, _), (5, _)] ⟨rfl, rfl, rfl, trivial⟩ ?_
      refine vc_seq ?_
      refine vc_region ?_
      refine vc_y rfl rfl (y_mv rfl) ?_
      refine vc_y rfl rfl (y_mv rfl) ?_
      refine vc_y rfl rfl (y_lens rfl Tryz.underlying9) ?_
      refine vc_y rfl rfl (y_bld (.agg #[_, _, _, _, _]) [(0, _), (2, _)] rfl (fun w => by simp [Instr.build, go_sem] <;> repeat' constructor)) ?_
      have hbt : ∀ b ∈ obk to, b < w.heap.size := fun b hb => (owns_lt (st.res (i := 1) rfl) b hb).2
      refine vc_e (e_bxn (l := [_, _, _, _, _]) st rfl rfl rfl rfl ?_)
      intro b27 w hbe hb27 st
      refine vc_y rfl rfl (y_bld (.agg #[_, _]) [] rfl (fun w => by simp [Instr.build, go_sem] <;> repeat' constructor)) ?_
      refine vc_y rfl rfl (y_as rfl) ?_
      refine vc_y rfl rfl (y_as rfl) ?_
      refine vc_e (e_sts (vs := [_, _]) st 3 rfl rfl rfl rfl rfl Tryz.sizeOf28 rfl rfl (by first | (right; assumption) | (left; simp)) ?_)
      intro w st; dsimp only [setNth, wr] at st
      refine vc_end ?_
      refine vq_then ?_
      refine vc_keep [(2, _), (3, _), (4, _)] ⟨rfl, rfl, rfl, trivial⟩ ?_
      refine vc_ret ?_
      refine vq_ret3 st (.inl rfl) Tryz.results14 (.tmp rfl) (.tmp rfl) (by exact .cell 3 rfl rfl Tryz.isAgg28 Tryz.sizeOf28) ?_
      refine ⟨_, rfl, ?_⟩
      refine ⟨st.chg, .inr (.inr ⟨hsl, hfr, ⟨b27, b27, to, tc, (front s).1, s.length, 47⟩, ⟨rfl, rfl, rfl, st.res (i := 2) rfl, ?_, hb27, ?_, hsl⟩, rfl⟩)⟩
      · show w.heap[b27]? = _
        have h2 : w.heap[b27]? = some (.cells [.slice to (front s).1.length tc, .int .i64 0, .int .i64 (s.length : Int), .int .i64 0, .int .i64 0].toArray 47 (0, 0)) := st.res (i := 0) rfl
        rw [h2]; simp [rcell]
      · intro b hb; show b < b27; rw [hbe]; exact hbt b hb

end Go.Proofs.YtggnfanphcaamaaGreatDoor

