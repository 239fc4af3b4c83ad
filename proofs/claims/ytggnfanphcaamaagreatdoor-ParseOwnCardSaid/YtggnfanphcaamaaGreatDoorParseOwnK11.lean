/- A part of the proof: contracts of functions and plain laws; each theorem says its own conditions. -/
import Derived.WalkKit
import Derived.ProofKit
import Derived.OpenShut
import Derived.ShutString
import Derived.ChangeOld
import Derived.Below
import Derived.Test.YtggnfanphcaamaaGreatDoorParseOwnK1
import Derived.Test.YtggnfanphcaamaaGreatDoorParseOwnK10
import Derived.Test.YtggnfanphcaamaaGreatDoorParseOwnK4
import Derived.Test.YtggnfanphcaamaaGreatDoorParseOwnK7
import Derived.Test.YtggnfanphcaamaaGreatDoorParseOwnK2
import Derived.Test.YtggnfanphcaamaaGreatDoorParseOwnK3
set_option linter.unusedVariables false
set_option linter.unusedSimpArgs false
namespace Go.Proofs.YtggnfanphcaamaaGreatDoor
open Go.RowKit Sx LexS _root_.Go.Proofs.Tryz
/-- what 'one' hands back -/
def OnePost (res : TokR) (v : Value) : Prop := match res with
 | .tok t => v = .tuple [.agg (tokL t).toArray, .int .i64 0, .int .i64 0].toArray
 | .bad rule p => ∃ k t wd a, v = .tuple [.agg (tok4 k t wd a).toArray, .int .i64 (rule : Int), .int .i64 (p : Int)].toArray
theorem isWord_len {l : List UInt8} (h : isWord l = true) : l.length ≤ 32 := by
 simp only [isWord, decide_eq_true_eq] at h
 rcases h with h | h | h | h | h | h | h | h | h | h <;> rw [h] <;> decide
theorem numR_digits {T : List UInt8} (hne : T ≠ []) (hall : T.all isDigit = true) : numR T = if (1 < T.length ∧ T.getD 0 0 = 48) ∨ 9223372036854775807 < numVal T then (0, false) else (numVal T, true) := by
 unfold numR
 simp only [hne, hall, Bool.true_eq_false, false_or]
theorem all_takeWhile {p : UInt8 → Bool} (l : List UInt8) : (l.takeWhile p).all p = true := by
 induction l with
 | nil => rfl
 | cons c r ih => rw [List.takeWhile_cons]; split
                  · rename_i h; simp only [List.all_cons, h, ih, Bool.and_self]
                  · rfl
theorem numR_tok {s : List UInt8} {i : Nat} (h : i < s.length) (hc : isLetter (s.getD i 0) = false) (hd : isDigit (s.getD i 0) = true) :
    tokAt (s.drop i) i = if (numR ((s.drop i).takeWhile isDigit)).2 = false then .bad 3 i
   else if i + ((s.drop i).takeWhile isDigit).length < s.length ∧ isLetter (s.getD (i + ((s.drop i).takeWhile isDigit).length) 0) = true then .bad 4 (i + ((s.drop i).takeWhile isDigit).length)
   else .tok ⟨3, (s.drop i).takeWhile isDigit, (numR ((s.drop i).takeWhile isDigit)).1, i⟩ := by
 rw [tokAt_num h hc hd]
 have hT : (s.drop i).takeWhile isDigit = s.getD i 0 :: (s.drop (i + 1)).takeWhile isDigit := by rw [drop_cons h, List.takeWhile_cons, if_pos hd]
 have hall := all_takeWhile (p := isDigit) (s.drop i)
 rw [hT] at hall ⊢
 generalize (s.drop (i + 1)).takeWhile isDigit = U at *
 have h0 : (s.getD i 0 :: U).getD 0 0 = s.getD i 0 := rfl
 rw [numR_digits (by simp) hall, h0]
 by_cases hcond : (1 < (s.getD i 0 :: U).length ∧ s.getD i 0 = 48) ∨ 9223372036854775807 < numVal (s.getD i 0 :: U)
 ·rw [if_pos hcond, if_pos hcond, if_pos rfl]
 ·rw [if_neg hcond, if_neg hcond]; simp only [Bool.true_eq_false, if_false]
set_option maxHeartbeats 2000000 in
theorem rone_any (s : List UInt8) (i : Nat) (w : World) (hi : i < s.length) (hs : s.length ≤ 9000000000000000000) :
    Ret Tryz.prog 63 [str s, .int .i64 (i : Int)] w fun v w' => OnePost (tokAt (s.drop i) i) v ∧ Chg [] w w' := by
 refine ret_of [_, _] func63 rfl ntmps63 rfl ?_
 have st := St.init w []
 refine sr ?_
 refine vc_e (e_al (l := [_, _, _, _]) st rfl rfl zeroValue82 rfl ?_)
 intro b4 w hb4 st
 iterate 2 refine ya ?_
 refine et (vk3 0 1 4 (sr ?_))
 refine ym ?_
 refine ya ?_
 refine et (vk4 0 1 4 7 (vc_seq (vc_block (sr ?_))))
 iterate 2 refine ym ?_
 refine vy (y_ixs (k := i) rfl rfl underlying9 rfl (by omega)) ?_
 refine vc_e (e_call [_] rfl rfl call75 rfl (rletter_any _ _) ?_)
 rintro _ w ⟨rfl, rfl⟩
 refine ya ?_
 refine et (vk5 0 1 4 7 12 ?_)
 refine vif ?_ ?_
 ·intro hc12
  try simp only [dn] at hc12
  refine vc_seq (vc_block ?_)
  refine vc_loop (w0 := _) (M := _) (fun (j : Nat) => [(0, str s), (1, .int .i64 (i : Int)), (4, .pointer (some ⟨b4, 0, none⟩)), (7, .int .i64 (j : Int))]) (fun _ => [.blk b4 (.cells zeroL.toArray 82 (0, 0))]) (fun j _ => i ≤ j ∧ j ≤ s.length ∧ (s.drop i).takeWhile isIdent = (s.drop i).take (j - i) ++ (s.drop j).takeWhile isIdent) (fun j => s.length - j) i ⟨rfl, rfl, rfl, rfl, trivial⟩ st ⟨by omega, by omega, by simp⟩ ?_
  rintro j w ⟨hij, hj, he⟩ st
  refine vc_seq (sr ?_)
  iterate 2 refine ym ?_
  refine vy (y_lens rfl underlying9) ?_
  refine vy (y_lss rfl rfl) ?_
  refine vmb ?_ ?_
  ·intro hg21
   try simp only [dn] at hg21
   iterate 2 refine ym ?_
   refine vy (y_ixs (k := j) rfl rfl underlying9 rfl (by omega)) ?_
   refine vc_e (e_call [_] rfl rfl call75 rfl (rletter_any _ _) ?_)
   rintro _ w ⟨rfl, rfl⟩
   refine vmb ?_ ?_
   ·intro hg26
    try simp only [dn] at hg26
    iterate 4 refine vsk ?_
    iterate 2 refine ypt ?_
    refine et (vk5 0 1 4 7 32 ?_)
    refine vc_ift rfl ?_
    refine kt (vk4 0 1 4 7 (vc_block (vc_region ?_)))
    refine ym ?_
    refine vy (y_add rfl rfl rfl (by omega) (by omega)) ?_
    refine ya ?_
    refine vc_end (vq_block ?_)
    refine vq_again (j + 1) ⟨rfl, rfl, rfl, rfl, trivial⟩ st ?_ ?_
    ·exact ⟨by omega, by omega, tw_step hij (by omega) (isIdent_of _ (by (left; assumption))) he⟩
    omega
   intro hg26
   try simp only [dn] at hg26
   iterate 2 refine ym ?_
   refine vy (y_ixs (k := j) rfl rfl underlying9 rfl (by omega)) ?_
   refine vc_e (e_call [_] rfl rfl call76 rfl (rdigit_any _ _) ?_)
   rintro _ w ⟨rfl, rfl⟩
   refine ypf ?_
   refine ypt ?_
   refine et (vk5 0 1 4 7 32 ?_)
   refine vif ?_ ?_
   ·intro hc32
    try simp only [dn] at hc32
    refine kt (vk4 0 1 4 7 (vc_block (vc_region ?_)))
    refine ym ?_
    refine vy (y_add rfl rfl rfl (by omega) (by omega)) ?_
    refine ya ?_
    refine vc_end (vq_block ?_)
    refine vq_again (j + 1) ⟨rfl, rfl, rfl, rfl, trivial⟩ st ?_ ?_
    ·exact ⟨by omega, by omega, tw_step hij (by omega) (isIdent_of _ (by (right; assumption))) he⟩
    omega
   intro hc32
   try simp only [dn] at hc32
   have hT := tw_end (fun _ => isIdent_no _ (by assumption) (by assumption)) he
   refine vc_exit (vq_then_exit (vq_then_exit (vq_block_exit (vq_then (vk4 0 1 4 7 (sr ?_))))))
   iterate 3 refine ym ?_
   refine vy (y_sls (i := i) (j := j) rfl rfl rfl underlying9 rfl rfl (by omega) (by omega)) ?_
   refine ym ?_
   refine vy (y_bld (.agg #[_, _, _, _]) [(0, _), (1, _), (3, _)] rfl (fun w => by simp [Instr.build, go_sem] <;> repeat' constructor)) ?_
   refine vc_e (e_al (l := [_, _, _, _]) st rfl rfl zeroValue82 rfl ?_)
   intro b8 w hb8 st
   refine vc_e (e_sts (vs := [_, _, _, _]) st 0 rfl rfl rfl rfl rfl sizeOf82 rfl rfl (by (right; assumption)) ?_)
   intro w st; dsimp only [setNth, wr] at st
   refine et (vk4 1 4 7 8 (vc_seq (sr ?_)))
   refine yfz 1 underlying82 sizeOf9 ?_
   refine yl st 0 isAgg9 ?_
   refine vc_e (e_call [_] rfl rfl call77 rfl (rword_any _ _) ?_)
   rintro _ w ⟨rfl, rfl⟩
   refine et (vk5 1 4 7 8 43 ?_)
   refine vif ?_ ?_
   intro hc43
   try simp only [dn] at hc43
   refine vc_region ?_
   refine vy (y_fa0 rfl underlying82 rfl rfl sizeOf80 rfl) ?_
   refine vc_e (e_st st 0 rfl rfl rfl rfl sizeOf80 rfl rfl (by (right; assumption)) ?_)
   intro w st; dsimp only [setNth, wr] at st
   refine vc_end ?_
   rotate_left
   intro hc43
   try simp only [dn] at hc43
   refine vc_code_skip ?_
   all_goals
    refine vq_then (vk4 1 4 7 8 (vc_seq (sr ?_)))
    iterate 2 refine ym ?_
    refine vy (y_sub rfl rfl rfl (by omega) (by omega)) ?_
    refine vy (y_gtr rfl rfl) ?_
    refine et (vk4 1 4 8 48 ?_)
    refine vif ?_ ?_
    intro hc48
    try simp only [dn] at hc48
    refine sr ?_
    refine yla st 0 [_, _, _, _] isAgg82 sizeOf82 ?_
    refine ym ?_
    refine vy (y_add rfl rfl (by omega : _ = ((i + 32 : Nat) : Int)) (by omega) (by omega)) ?_
    refine vc_e (e_sts (vs := [_, _, _, _]) st 1 rfl rfl rfl rfl rfl sizeOf82 rfl rfl (by (right; assumption)) ?_)
    intro w st; dsimp only [setNth, wr] at st
    iterate 2 refine ya ?_
    refine et (vk3 4 5 6 (vc_ret (vq_then_ret ?_)))
    rotate_left
    intro hc48
    try simp only [dn] at hc48
    refine kt (vk2 4 8 (sr ?_))
    refine yla st 0 [_, _, _, _] isAgg82 sizeOf82 ?_
    refine vc_e (e_sts (vs := [_, _, _, _]) st 1 rfl rfl rfl rfl rfl sizeOf82 rfl rfl (by (right; assumption)) ?_)
    intro w st; dsimp only [setNth, wr] at st
    iterate 2 refine ya ?_
    refine et (vk3 4 5 6 (vc_ret ?_))
    all_goals
     refine vq_block_ret (vq_then_ret ?_)
     refine vq_ret3 st (.inl rfl) results63 (by exact .cell 1 rfl rfl isAgg82 sizeOf82) (.tmp rfl) (.tmp rfl) ?_
     refine ⟨_, rfl, ?_⟩
     have hlen : (List.take (j - i) (List.drop i s)).length = j - i := by simp; omega
     refine ⟨?_, st.chg⟩
     rw [tokAt_word hi (by assumption), hT, hlen]
     first
     | (exfalso; have := isWord_len hc43; omega)
     | (rw [if_pos hc43]; rfl)
     | (rw [if_neg (by rw [hc43]; simp), if_pos (by omega)]; exact ⟨_, _, _, _, rfl⟩)
     | (rw [if_neg (by rw [hc43]; simp), if_neg (by omega)]; rfl)
  intro hg21
  try simp only [dn] at hg21
  have hT := tw_end (fun h => absurd h (by omega)) he
  iterate 10 refine vsk ?_
  refine ypf ?_
  refine et (vk5 0 1 4 7 32 ?_)
  refine vc_iff rfl ?_
  refine vc_exit (vq_then_exit (vq_then_exit (vq_block_exit (vq_then (vk4 0 1 4 7 (sr ?_))))))
  iterate 3 refine ym ?_
  refine vy (y_sls (i := i) (j := j) rfl rfl rfl underlying9 rfl rfl (by omega) (by omega)) ?_
  refine ym ?_
  refine vy (y_bld (.agg #[_, _, _, _]) [(0, _), (1, _), (3, _)] rfl (fun w => by simp [Instr.build, go_sem] <;> repeat' constructor)) ?_
  refine vc_e (e_al (l := [_, _, _, _]) st rfl rfl zeroValue82 rfl ?_)
  intro b8 w hb8 st
  refine vc_e (e_sts (vs := [_, _, _, _]) st 0 rfl rfl rfl rfl rfl sizeOf82 rfl rfl (by (right; assumption)) ?_)
  intro w st; dsimp only [setNth, wr] at st
  refine et (vk4 1 4 7 8 (vc_seq (sr ?_)))
  refine yfz 1 underlying82 sizeOf9 ?_
  refine yl st 0 isAgg9 ?_
  refine vc_e (e_call [_] rfl rfl call77 rfl (rword_any _ _) ?_)
  rintro _ w ⟨rfl, rfl⟩
  refine et (vk5 1 4 7 8 43 ?_)
  refine vif ?_ ?_
  intro hc43
  try simp only [dn] at hc43
  refine vc_region ?_
  refine vy (y_fa0 rfl underlying82 rfl rfl sizeOf80 rfl) ?_
  refine vc_e (e_st st 0 rfl rfl rfl rfl sizeOf80 rfl rfl (by (right; assumption)) ?_)
  intro w st; dsimp only [setNth, wr] at st
  refine vc_end ?_
  rotate_left
  intro hc43
  try simp only [dn] at hc43
  refine vc_code_skip ?_
  all_goals
   refine vq_then (vk4 1 4 7 8 (vc_seq (sr ?_)))
   iterate 2 refine ym ?_
   refine vy (y_sub rfl rfl rfl (by omega) (by omega)) ?_
   refine vy (y_gtr rfl rfl) ?_
   refine et (vk4 1 4 8 48 ?_)
   refine vif ?_ ?_
   intro hc48
   try simp only [dn] at hc48
   refine sr ?_
   refine yla st 0 [_, _, _, _] isAgg82 sizeOf82 ?_
   refine ym ?_
   refine vy (y_add rfl rfl (by omega : _ = ((i + 32 : Nat) : Int)) (by omega) (by omega)) ?_
   refine vc_e (e_sts (vs := [_, _, _, _]) st 1 rfl rfl rfl rfl rfl sizeOf82 rfl rfl (by (right; assumption)) ?_)
   intro w st; dsimp only [setNth, wr] at st
   iterate 2 refine ya ?_
   refine et (vk3 4 5 6 (vc_ret (vq_then_ret ?_)))
   rotate_left
   intro hc48
   try simp only [dn] at hc48
   refine kt (vk2 4 8 (sr ?_))
   refine yla st 0 [_, _, _, _] isAgg82 sizeOf82 ?_
   refine vc_e (e_sts (vs := [_, _, _, _]) st 1 rfl rfl rfl rfl rfl sizeOf82 rfl rfl (by (right; assumption)) ?_)
   intro w st; dsimp only [setNth, wr] at st
   iterate 2 refine ya ?_
   refine et (vk3 4 5 6 (vc_ret ?_))
   all_goals
    refine vq_block_ret (vq_then_ret ?_)
    refine vq_ret3 st (.inl rfl) results63 (by exact .cell 1 rfl rfl isAgg82 sizeOf82) (.tmp rfl) (.tmp rfl) ?_
    refine ⟨_, rfl, ?_⟩
    have hlen : (List.take (j - i) (List.drop i s)).length = j - i := by simp; omega
    refine ⟨?_, st.chg⟩
    rw [tokAt_word hi (by assumption), hT, hlen]
    first
    | (exfalso; have := isWord_len hc43; omega)
    | (rw [if_pos hc43]; rfl)
    | (rw [if_neg (by rw [hc43]; simp), if_pos (by omega)]; exact ⟨_, _, _, _, rfl⟩)
    | (rw [if_neg (by rw [hc43]; simp), if_neg (by omega)]; rfl)
 intro hc12
 try simp only [dn] at hc12
 refine sr ?_
 iterate 2 refine ym ?_
 refine vy (y_ixs (k := i) rfl rfl underlying9 rfl (by omega)) ?_
 refine vc_e (e_call [_] rfl rfl call76 rfl (rdigit_any _ _) ?_)
 rintro _ w ⟨rfl, rfl⟩
 refine ya ?_
 refine et (vk5 0 1 4 7 53 ?_)
 refine vif ?_ ?_
 ·intro hc53
  try simp only [dn] at hc53
  refine vc_seq (vc_block ?_)
  refine vc_loop (w0 := _) (M := _) (fun (j : Nat) => [(0, str s), (1, .int .i64 (i : Int)), (4, .pointer (some ⟨b4, 0, none⟩)), (7, .int .i64 (j : Int))]) (fun _ => [.blk b4 (.cells zeroL.toArray 82 (0, 0))]) (fun j _ => i ≤ j ∧ j ≤ s.length ∧ (s.drop i).takeWhile isDigit = (s.drop i).take (j - i) ++ (s.drop j).takeWhile isDigit) (fun j => s.length - j) i ⟨rfl, rfl, rfl, rfl, trivial⟩ st ⟨by omega, by omega, by simp⟩ ?_
  rintro j w ⟨hij, hj, he⟩ st
  refine vc_seq (sr ?_)
  iterate 2 refine ym ?_
  refine vy (y_lens rfl underlying9) ?_
  refine vy (y_lss rfl rfl) ?_
  refine vmb ?_ ?_
  ·intro hg62
   try simp only [dn] at hg62
   iterate 2 refine ym ?_
   refine vy (y_ixs (k := j) rfl rfl underlying9 rfl (by omega)) ?_
   refine vc_e (e_call [_] rfl rfl call76 rfl (rdigit_any _ _) ?_)
   rintro _ w ⟨rfl, rfl⟩
   refine ypt ?_
   refine et (vk5 0 1 4 7 67 ?_)
   refine vif ?_ ?_
   ·intro hc67
    try simp only [dn] at hc67
    refine kt (vk4 0 1 4 7 (vc_block (vc_region ?_)))
    refine ym ?_
    refine vy (y_add rfl rfl rfl (by omega) (by omega)) ?_
    refine ya ?_
    refine vc_end (vq_block ?_)
    refine vq_again (j + 1) ⟨rfl, rfl, rfl, rfl, trivial⟩ st ?_ ?_
    ·exact ⟨by omega, by omega, tw_step hij (by omega) (by assumption) he⟩
    omega
   intro hc67
   try simp only [dn] at hc67
   have hT := tw_end (fun _ => by assumption) he
   refine vc_exit (vq_then_exit (vq_then_exit (vq_block_exit (vq_then (vk4 0 1 4 7 (sr ?_))))))
   iterate 3 refine ym ?_
   refine vy (y_sls (i := i) (j := j) rfl rfl rfl underlying9 rfl rfl (by omega) (by omega)) ?_
   refine vc_e (e_call [_] rfl rfl call78 rfl (rnumber_any _ _ (by simp; omega)) ?_)
   rintro _ w ⟨rfl, rfl⟩
   refine ym ?_
   iterate 2 refine vy (y_ext rfl rfl) ?_
   iterate 2 refine ya ?_
   refine et (vk6 0 1 4 7 9 10 (vc_seq (sr ?_)))
   refine ym ?_
   refine vy (y_not rfl) ?_
   refine et (vk6 0 1 4 7 9 79 ?_)
   refine vif ?_ ?_
   intro hc79
   try simp only [dn] at hc79
   refine sr ?_
   refine vy (y_bld (.agg #[_, _, _, _]) [] rfl (fun w => by simp [Instr.build, go_sem] <;> repeat' constructor)) ?_
   refine ym ?_
   refine vc_e (e_sts (vs := [_, _, _, _]) st 0 rfl rfl rfl rfl rfl sizeOf82 rfl rfl (by (right; assumption)) ?_)
   intro w st; dsimp only [setNth, wr] at st
   iterate 2 refine ya ?_
   refine et (vk3 4 5 6 (vc_ret (vq_then_ret ?_)))
   rotate_left
   focus
    intro hc79
    try simp only [dn] at hc79
    refine kt (vk5 0 1 4 7 9 (vc_seq (sr ?_)))
    iterate 2 refine ym ?_
    refine vy (y_lens rfl underlying9) ?_
    refine vy (y_lss rfl rfl) ?_
    refine vmb ?_ ?_
    focus
     intro hg86
     try simp only [dn] at hg86
     iterate 2 refine ym ?_
     refine vy (y_ixs (k := j) rfl rfl underlying9 rfl (by omega)) ?_
     refine vc_e (e_call [_] rfl rfl call75 rfl (rletter_any _ _) ?_)
     rintro _ w ⟨rfl, rfl⟩
     refine ypt ?_
     refine et (vk6 0 1 4 7 9 91 ?_)
     refine vif ?_ ?_
     intro hc91
     try simp only [dn] at hc91
     refine sr ?_
     refine vy (y_bld (.agg #[_, _, _, _]) [] rfl (fun w => by simp [Instr.build, go_sem] <;> repeat' constructor)) ?_
     refine ym ?_
     refine vc_e (e_sts (vs := [_, _, _, _]) st 0 rfl rfl rfl rfl rfl sizeOf82 rfl rfl (by (right; assumption)) ?_)
     intro w st; dsimp only [setNth, wr] at st
     iterate 2 refine ya ?_
     refine et (vk3 4 5 6 (vc_ret (vq_then_ret ?_)))
     rotate_left
     intro hc91
     try simp only [dn] at hc91
     refine kt (vk5 0 1 4 7 9 (sr ?_))
     iterate 3 refine ym ?_
     refine vy (y_sls (i := i) (j := j) rfl rfl rfl underlying9 rfl rfl (by omega) (by omega)) ?_
     iterate 2 refine ym ?_
     refine vy (y_bld (.agg #[_, _, _, _]) [(0, _), (1, _), (2, _), (3, _)] rfl (fun w => by simp [Instr.build, go_sem] <;> repeat' constructor)) ?_
     refine vc_e (e_sts (vs := [_, _, _, _]) st 0 rfl rfl rfl rfl rfl sizeOf82 rfl rfl (by (right; assumption)) ?_)
     intro w st; dsimp only [setNth, wr] at st
     iterate 2 refine ya ?_
     refine et (vk3 4 5 6 (vc_ret ?_))
    rotate_left 2
    intro hg86
    try simp only [dn] at hg86
    iterate 4 refine vsk ?_
    refine ypf ?_
    refine et (vk6 0 1 4 7 9 91 ?_)
    refine vc_iff rfl ?_
    refine kt (vk5 0 1 4 7 9 (sr ?_))
    iterate 3 refine ym ?_
    refine vy (y_sls (i := i) (j := j) rfl rfl rfl underlying9 rfl rfl (by omega) (by omega)) ?_
    iterate 2 refine ym ?_
    refine vy (y_bld (.agg #[_, _, _, _]) [(0, _), (1, _), (2, _), (3, _)] rfl (fun w => by simp [Instr.build, go_sem] <;> repeat' constructor)) ?_
    refine vc_e (e_sts (vs := [_, _, _, _]) st 0 rfl rfl rfl rfl rfl sizeOf82 rfl rfl (by (right; assumption)) ?_)
    intro w st; dsimp only [setNth, wr] at st
    iterate 2 refine ya ?_
    refine et (vk3 4 5 6 (vc_ret ?_))
   all_goals
    refine vq_block_ret (vq_then_ret ?_)
    refine vq_ret3 st (.inl rfl) results63 (by exact .cell 0 rfl rfl isAgg82 sizeOf82) (.tmp rfl) (.tmp rfl) ?_
    refine ⟨_, rfl, ?_⟩
    have hlen : (List.take (j - i) (List.drop i s)).length = j - i := by simp; omega
    refine ⟨?_, st.chg⟩
    rw [numR_tok hi (by assumption) (by assumption), hT, hlen, show i + (j - i) = j by omega]
    first
    | (rw [if_pos (by assumption)]; exact ⟨_, _, _, _, rfl⟩)
    | (rw [if_neg (by rw [hc79]; simp), if_pos ⟨by omega, by assumption⟩]; exact ⟨_, _, _, _, rfl⟩)
    | (rw [if_neg (by rw [hc79]; simp), if_neg (by rintro ⟨h1, h2⟩; first | omega | simp_all)]; rfl)
  intro hg62
  try simp only [dn] at hg62
  have hT := tw_end (fun h => absurd h (by omega)) he
  iterate 4 refine vsk ?_
  refine ypf ?_
  refine et (vk5 0 1 4 7 67 ?_)
  refine vc_iff rfl ?_
  refine vc_exit (vq_then_exit (vq_then_exit (vq_block_exit (vq_then (vk4 0 1 4 7 (sr ?_))))))
  iterate 3 refine ym ?_
  refine vy (y_sls (i := i) (j := j) rfl rfl rfl underlying9 rfl rfl (by omega) (by omega)) ?_
  refine vc_e (e_call [_] rfl rfl call78 rfl (rnumber_any _ _ (by simp; omega)) ?_)
  rintro _ w ⟨rfl, rfl⟩
  refine ym ?_
  iterate 2 refine vy (y_ext rfl rfl) ?_
  iterate 2 refine ya ?_
  refine et (vk6 0 1 4 7 9 10 (vc_seq (sr ?_)))
  refine ym ?_
  refine vy (y_not rfl) ?_
  refine et (vk6 0 1 4 7 9 79 ?_)
  refine vif ?_ ?_
  intro hc79
  try simp only [dn] at hc79
  refine sr ?_
  refine vy (y_bld (.agg #[_, _, _, _]) [] rfl (fun w => by simp [Instr.build, go_sem] <;> repeat' constructor)) ?_
  refine ym ?_
  refine vc_e (e_sts (vs := [_, _, _, _]) st 0 rfl rfl rfl rfl rfl sizeOf82 rfl rfl (by (right; assumption)) ?_)
  intro w st; dsimp only [setNth, wr] at st
  iterate 2 refine ya ?_
  refine et (vk3 4 5 6 (vc_ret (vq_then_ret ?_)))
  rotate_left
  focus
   intro hc79
   try simp only [dn] at hc79
   refine kt (vk5 0 1 4 7 9 (vc_seq (sr ?_)))
   iterate 2 refine ym ?_
   refine vy (y_lens rfl underlying9) ?_
   refine vy (y_lss rfl rfl) ?_
   refine vmb ?_ ?_
   focus
    intro hg86
    try simp only [dn] at hg86
    iterate 2 refine ym ?_
    refine vy (y_ixs (k := j) rfl rfl underlying9 rfl (by omega)) ?_
    refine vc_e (e_call [_] rfl rfl call75 rfl (rletter_any _ _) ?_)
    rintro _ w ⟨rfl, rfl⟩
    refine ypt ?_
    refine et (vk6 0 1 4 7 9 91 ?_)
    refine vif ?_ ?_
    intro hc91
    try simp only [dn] at hc91
    refine sr ?_
    refine vy (y_bld (.agg #[_, _, _, _]) [] rfl (fun w => by simp [Instr.build, go_sem] <;> repeat' constructor)) ?_
    refine ym ?_
    refine vc_e (e_sts (vs := [_, _, _, _]) st 0 rfl rfl rfl rfl rfl sizeOf82 rfl rfl (by (right; assumption)) ?_)
    intro w st; dsimp only [setNth, wr] at st
    iterate 2 refine ya ?_
    refine et (vk3 4 5 6 (vc_ret (vq_then_ret ?_)))
    rotate_left
    intro hc91
    try simp only [dn] at hc91
    refine kt (vk5 0 1 4 7 9 (sr ?_))
    iterate 3 refine ym ?_
    refine vy (y_sls (i := i) (j := j) rfl rfl rfl underlying9 rfl rfl (by omega) (by omega)) ?_
    iterate 2 refine ym ?_
    refine vy (y_bld (.agg #[_, _, _, _]) [(0, _), (1, _), (2, _), (3, _)] rfl (fun w => by simp [Instr.build, go_sem] <;> repeat' constructor)) ?_
    refine vc_e (e_sts (vs := [_, _, _, _]) st 0 rfl rfl rfl rfl rfl sizeOf82 rfl rfl (by (right; assumption)) ?_)
    intro w st; dsimp only [setNth, wr] at st
    iterate 2 refine ya ?_
    refine et (vk3 4 5 6 (vc_ret ?_))
   rotate_left 2
   intro hg86
   try simp only [dn] at hg86
   iterate 4 refine vsk ?_
   refine ypf ?_
   refine et (vk6 0 1 4 7 9 91 ?_)
   refine vc_iff rfl ?_
   refine kt (vk5 0 1 4 7 9 (sr ?_))
   iterate 3 refine ym ?_
   refine vy (y_sls (i := i) (j := j) rfl rfl rfl underlying9 rfl rfl (by omega) (by omega)) ?_
   iterate 2 refine ym ?_
   refine vy (y_bld (.agg #[_, _, _, _]) [(0, _), (1, _), (2, _), (3, _)] rfl (fun w => by simp [Instr.build, go_sem] <;> repeat' constructor)) ?_
   refine vc_e (e_sts (vs := [_, _, _, _]) st 0 rfl rfl rfl rfl rfl sizeOf82 rfl rfl (by (right; assumption)) ?_)
   intro w st; dsimp only [setNth, wr] at st
   iterate 2 refine ya ?_
   refine et (vk3 4 5 6 (vc_ret ?_))
  all_goals
   refine vq_block_ret (vq_then_ret ?_)
   refine vq_ret3 st (.inl rfl) results63 (by exact .cell 0 rfl rfl isAgg82 sizeOf82) (.tmp rfl) (.tmp rfl) ?_
   refine ⟨_, rfl, ?_⟩
   have hlen : (List.take (j - i) (List.drop i s)).length = j - i := by simp; omega
   refine ⟨?_, st.chg⟩
   rw [numR_tok hi (by assumption) (by assumption), hT, hlen, show i + (j - i) = j by omega]
   first
   | (rw [if_pos (by assumption)]; exact ⟨_, _, _, _, rfl⟩)
   | (rw [if_neg (by rw [hc79]; simp), if_pos ⟨by omega, by assumption⟩]; exact ⟨_, _, _, _, rfl⟩)
   | (rw [if_neg (by rw [hc79]; simp), if_neg (by rintro ⟨h1, h2⟩; omega)]; rfl)
 intro hc53
 try simp only [dn] at hc53
 refine sr ?_
 refine ym ?_
 refine vy (y_add rfl rfl (by omega : _ = ((i + 2 : Nat) : Int)) (by omega) (by omega)) ?_
 refine ym ?_
 refine vy (y_lens rfl underlying9) ?_
 refine vy (y_leq rfl rfl) ?_
 refine vmb ?_ ?_
 focus
  intro hg107
  try simp only [dn] at hg107
  iterate 3 refine ym ?_
  refine vy (y_add rfl rfl (by omega : _ = ((i + 2 : Nat) : Int)) (by omega) (by omega)) ?_
  refine vy (y_sls (i := i) (j := (i + 2)) rfl rfl rfl underlying9 rfl rfl (by omega) (by omega)) ?_
  refine vc_e (e_call [_] rfl rfl call79 rfl (rsign_any _ _) ?_)
  rintro _ w ⟨rfl, rfl⟩
  refine ypt ?_
  refine ya ?_
  refine et (vk4 0 1 4 101 ?_)
  refine vif ?_ ?_
  intro hc101
  try simp only [dn] at hc101
  refine sr ?_
  iterate 3 refine ym ?_
  refine vy (y_add rfl rfl (by omega : _ = ((i + 2 : Nat) : Int)) (by omega) (by omega)) ?_
  refine vy (y_sls (i := i) (j := (i + 2)) rfl rfl rfl underlying9 rfl rfl (by omega) (by omega)) ?_
  refine ym ?_
  refine vy (y_bld (.agg #[_, _, _, _]) [(0, _), (1, _), (3, _)] rfl (fun w => by simp [Instr.build, go_sem] <;> repeat' constructor)) ?_
  refine vc_e (e_sts (vs := [_, _, _, _]) st 0 rfl rfl rfl rfl rfl sizeOf82 rfl rfl (by (right; assumption)) ?_)
  intro w st; dsimp only [setNth, wr] at st
  iterate 2 refine ya ?_
  refine et (vk3 4 5 6 (vc_ret (vq_block_ret (vq_then_ret ?_))))
  rotate_left
  focus
   intro hc101
   try simp only [dn] at hc101
   refine sr ?_
   iterate 3 refine ym ?_
   refine vy (y_add rfl rfl (by omega : _ = ((i + 1 : Nat) : Int)) (by omega) (by omega)) ?_
   refine vy (y_sls (i := i) (j := (i + 1)) rfl rfl rfl underlying9 rfl rfl (by omega) (by omega)) ?_
   refine vc_e (e_call [_] rfl rfl call79 rfl (rsign_any _ _) ?_)
   rintro _ w ⟨rfl, rfl⟩
   refine ya ?_
   refine et (vk4 0 1 4 122 ?_)
   refine vif ?_ ?_
   intro hc122
   try simp only [dn] at hc122
   refine sr ?_
   iterate 3 refine ym ?_
   refine vy (y_add rfl rfl (by omega : _ = ((i + 1 : Nat) : Int)) (by omega) (by omega)) ?_
   refine vy (y_sls (i := i) (j := (i + 1)) rfl rfl rfl underlying9 rfl rfl (by omega) (by omega)) ?_
   refine ym ?_
   refine vy (y_bld (.agg #[_, _, _, _]) [(0, _), (1, _), (3, _)] rfl (fun w => by simp [Instr.build, go_sem] <;> repeat' constructor)) ?_
   refine vc_e (e_sts (vs := [_, _, _, _]) st 0 rfl rfl rfl rfl rfl sizeOf82 rfl rfl (by (right; assumption)) ?_)
   intro w st; dsimp only [setNth, wr] at st
   iterate 2 refine ya ?_
   refine et (vk3 4 5 6 (vc_ret (vq_block_ret (vq_then_ret ?_))))
   rotate_left
   intro hc122
   try simp only [dn] at hc122
   refine vc_code_skip (vq_block (vq_then (vk2 1 4 (sr ?_))))
   refine vy (y_bld (.agg #[_, _, _, _]) [] rfl (fun w => by simp [Instr.build, go_sem] <;> repeat' constructor)) ?_
   refine ym ?_
   refine vc_e (e_sts (vs := [_, _, _, _]) st 0 rfl rfl rfl rfl rfl sizeOf82 rfl rfl (by (right; assumption)) ?_)
   intro w st; dsimp only [setNth, wr] at st
   iterate 2 refine ya ?_
   refine et (vk3 4 5 6 (vc_ret ?_))
 rotate_left 3
 focus
  intro hg107
  try simp only [dn] at hg107
  iterate 6 refine vsk ?_
  refine ypf ?_
  refine ya ?_
  refine et (vk4 0 1 4 101 ?_)
  refine vc_iff rfl ?_
  refine sr ?_
  iterate 3 refine ym ?_
  refine vy (y_add rfl rfl (by omega : _ = ((i + 1 : Nat) : Int)) (by omega) (by omega)) ?_
  refine vy (y_sls (i := i) (j := (i + 1)) rfl rfl rfl underlying9 rfl rfl (by omega) (by omega)) ?_
  refine vc_e (e_call [_] rfl rfl call79 rfl (rsign_any _ _) ?_)
  rintro _ w ⟨rfl, rfl⟩
  refine ya ?_
  refine et (vk4 0 1 4 122 ?_)
  refine vif ?_ ?_
  intro hc122
  try simp only [dn] at hc122
  refine sr ?_
  iterate 3 refine ym ?_
  refine vy (y_add rfl rfl (by omega : _ = ((i + 1 : Nat) : Int)) (by omega) (by omega)) ?_
  refine vy (y_sls (i := i) (j := (i + 1)) rfl rfl rfl underlying9 rfl rfl (by omega) (by omega)) ?_
  refine ym ?_
  refine vy (y_bld (.agg #[_, _, _, _]) [(0, _), (1, _), (3, _)] rfl (fun w => by simp [Instr.build, go_sem] <;> repeat' constructor)) ?_
  refine vc_e (e_sts (vs := [_, _, _, _]) st 0 rfl rfl rfl rfl rfl sizeOf82 rfl rfl (by (right; assumption)) ?_)
  intro w st; dsimp only [setNth, wr] at st
  iterate 2 refine ya ?_
  refine et (vk3 4 5 6 (vc_ret (vq_block_ret (vq_then_ret ?_))))
  rotate_left
  intro hc122
  try simp only [dn] at hc122
  refine vc_code_skip (vq_block (vq_then (vk2 1 4 (sr ?_))))
  refine vy (y_bld (.agg #[_, _, _, _]) [] rfl (fun w => by simp [Instr.build, go_sem] <;> repeat' constructor)) ?_
  refine ym ?_
  refine vc_e (e_sts (vs := [_, _, _, _]) st 0 rfl rfl rfl rfl rfl sizeOf82 rfl rfl (by (right; assumption)) ?_)
  intro w st; dsimp only [setNth, wr] at st
  iterate 2 refine ya ?_
  refine et (vk3 4 5 6 (vc_ret ?_))
 all_goals
  refine vq_ret3 st (.inl rfl) results63 (by exact .cell 0 rfl rfl isAgg82 sizeOf82) (.tmp rfl) (.tmp rfl) ?_
  refine ⟨_, rfl, ?_⟩
  refine ⟨?_, st.chg⟩
  rw [tokAt_sign hi (by assumption) (by assumption)]
  simp only [show i + 2 - i = 2 by omega, show i + 1 - i = 1 by omega] at *
  have h2l : (List.take 2 (List.drop i s)).length = min 2 (s.length - i) := by simp
  have h1l : (List.take 1 (List.drop i s)).length = 1 := by simp; omega
  have e1 : isSign (List.take 1 (List.drop i s)) = isSign1 (List.take 1 (List.drop i s)) := by
   unfold isSign
   cases h : isSign2 (List.take 1 (List.drop i s))
   ·rfl
   ·have := isSign2_len h; omega
  have e2 : isSign2 (List.take 2 (List.drop i s)) = if i + 2 ≤ s.length then isSign (List.take 2 (List.drop i s)) else false := by
   split
   ·unfold isSign
    cases h : isSign1 (List.take 2 (List.drop i s))
    ·simp
    ·have := isSign1_len h; omega
   ·cases h : isSign2 (List.take 2 (List.drop i s))
    ·rfl
    ·have := isSign2_len h; omega
  first
  | (rw [if_pos (by rw [e2, if_pos (by omega)]; assumption)]; rfl)
  | (rw [if_neg (by rw [e2, if_pos (by omega)]; simp only [*]; simp), if_pos (by rw [← e1]; assumption)]; rfl)
  | (rw [if_neg (by rw [e2, if_neg (by omega)]; simp), if_pos (by rw [← e1]; assumption)]; rfl)
  | (rw [if_neg (by rw [e2, if_pos (by omega)]; simp only [*]; simp), if_neg (by rw [← e1]; simp only [*]; simp)]; exact ⟨_, _, _, _, rfl⟩)
  | (rw [if_neg (by rw [e2, if_neg (by omega)]; simp), if_neg (by rw [← e1]; simp only [*]; simp)]; exact ⟨_, _, _, _, rfl⟩)
end Go.Proofs.YtggnfanphcaamaaGreatDoor


namespace Go.Proofs.YtggnfanphcaamaaGreatDoor
open Go.ChangeShapes Go.WideShapes Go.ChangeAt Go.RowKit
open Go.ChangeMaps (open_string shut_string)
open Sx LexS
/-- a token as the memory holds it -/
structure TV where
 k : Int
 t : List UInt8
 wd : Int
 a : Int
/-- one token of the document's, its parts named -/
theorem one_flat {res : TokR} {v : Value} (h : OnePost res v) : ∃ k t wd a rule p, v = .tuple [.agg (tok4 k t wd a).toArray, .int .i64 rule, .int .i64 p].toArray ∧
    ((rule = 0 ∧ p = 0 ∧ ∃ x : Tok, res = .tok x ∧ k = x.kind ∧ t = x.text ∧ wd = x.word ∧ a = x.at_) ∨ ∃ r q : Nat, res = .bad r q ∧ rule = r ∧ p = q) := by
 cases res with
 | tok x => exact ⟨_, _, _, _, _, _, h, .inl ⟨rfl, rfl, x, rfl, rfl, rfl, rfl, rfl⟩⟩
 | bad r q => obtain ⟨k, t, wd, a, hv⟩ := h; exact ⟨k, t, wd, a, _, _, hv, .inr ⟨r, q, rfl, rfl, rfl⟩⟩
def fRule (x : Option (Nat × Nat)) : Nat := match x with | none => 0 | some (r, _) => r
def fAt (x : Option (Nat × Nat)) : Nat := match x with | none => 0 | some (_, p) => p
def FrontPost (s : List UInt8) (w : World) (v : Value) (w' : World) : Prop :=
 Chg [] w w' ∧ ∃ oa cap, v = .tuple [.slice oa (front s).1.length cap, .int .i64 (fRule (front s).2 : Int), .int .i64 (fAt (front s).2 : Int)].toArray ∧
  w'.ownsRow w.heap.size 82 4 (.slice oa (front s).1.length cap) (front s).1.length (toksL (front s).1)

set_option maxHeartbeats 1000000 in
theorem rfront_any (s : List UInt8) (w : World) (hs : s.length ≤ 3000000000000) : Ret Tryz.prog 47 [str s] w (FrontPost s w) := by
 refine ret_of [_] Tryz.func47 rfl Tryz.ntmps47 rfl ?_
 have st := St.init w []
 refine sr ?_
 iterate 3 refine ya ?_
 refine et (vk1 0 (sr ?_))
 refine ya ?_
 refine et (vk2 0 5 (vc_seq (sr ?_)))
 refine ym ?_
 refine vc_e (e_call [_, _] rfl rfl Tryz.call62 rfl (rskip_any s 0 _ (by omega) (by omega)) ?_)
 rintro _ w ⟨rfl, rfl⟩
 replace st := st.ownNil 82 4
 refine ya ?_
 refine et (vk3 0 5 6 (vc_block ?_))
 refine vc_loop (w0 := _) (M := _) (fun (x : List Tok × Nat × Option Addr × Nat) => [(0, str s), (5, .slice x.2.2.1 x.1.length x.2.2.2), (6, .int .i64 ((x.2.1 + skip (s.drop x.2.1) : Nat) : Int))]) (fun x => [.own (.slice x.2.2.1 x.1.length x.2.2.2) 82 4 x.1.length (toksL x.1)]) (fun x _ => x.2.1 ≤ s.length ∧ x.1.length ≤ x.2.1 ∧ (front s).1 = x.1 ++ (scanA (s.drop x.2.1) x.2.1).1 ∧ (front s).2 = (scanA (s.drop x.2.1) x.2.1).2) (fun x => s.length - x.2.1) ([], 0, none, 0) ⟨rfl, rfl, rfl, trivial⟩ st ⟨by simp, by simp, by simp [front_eq], by simp [front_eq]⟩ ?_
 rintro ⟨l, i, oa, cap⟩ w ⟨hi, hli, hf1, hf2⟩ st
 dsimp only at *
 refine vc_seq (sr ?_)
 iterate 2 refine ym ?_
 refine vy (y_lens rfl Tryz.underlying9) ?_
 refine vy (y_lss rfl rfl) ?_
 refine et (vk4 0 5 6 15 ?_)
 refine vif ?_ ?_
 ·intro hc15
  try simp only [dn] at hc15
  refine kt (vk3 0 5 6 (vc_seq (vc_block (sr ?_))))
  iterate 2 refine ym ?_
  refine vc_e (e_call [_, _] rfl rfl Tryz.call63 rfl (rone_any s (i + skip (s.drop i)) _ (by omega) (by omega)) ?_)
  rintro _ w ⟨hp, cw⟩
  obtain ⟨k, t, wd, a, rule, p, rfl, hrel⟩ := one_flat hp
  replace st := st.call0 cw
  refine ym ?_
  iterate 3 refine vy (y_ext rfl rfl) ?_
  refine vc_e (e_al (l := [_, _, _, _]) st rfl rfl Tryz.zeroValue82 rfl ?_)
  intro b7 w hb7 st
  refine vc_e (e_sts (vs := [_, _, _, _]) st 0 rfl rfl rfl rfl rfl Tryz.sizeOf82 rfl rfl (by (right; assumption)) ?_)
  intro w st; dsimp only [setNth, wr] at st
  iterate 2 refine ya ?_
  refine et (vk6 0 5 6 7 8 9 (vc_seq (sr ?_)))
  refine ym ?_
  refine vy (y_gtr rfl rfl) ?_
  refine et (vk7 0 5 6 7 8 9 27 ?_)
  refine vif ?_ ?_
  ·intro hc27
   try simp only [dn] at hc27
   refine sr ?_
   iterate 3 refine ym ?_
   iterate 3 refine ya ?_
   refine et (vk3 2 3 4 (vc_ret (vq_then_ret (vq_block_ret (vq_then_ret (vq_then_ret (vq_block_ret (vq_then_ret ?_))))))))
   refine vq_ret3 st (.inl rfl) Tryz.results47 (.tmp rfl) (.tmp rfl) (.tmp rfl) ?_
   refine ⟨_, rfl, ?_⟩
   obtain ⟨r, q, hx, rfl, rfl⟩ : ∃ r q : Nat, tokAt (s.drop (i + skip (s.drop i))) (i + skip (s.drop i)) = .bad r q ∧ rule = r ∧ p = q := by
    rcases hrel with ⟨h, _⟩ | h
    ·omega
    ·exact h
   have hsc := scanA_bad (r := s.drop i) (i := i) (by simp; omega) (by rw [List.drop_drop]; exact hx)
   have e1 : (front s).1 = l := by rw [hf1, hsc]; simp
   have e2 : (front s).2 = some (r, q) := by rw [hf2, hsc]
   refine ⟨st.chg, oa, cap, ?_, ?_⟩
   ·rw [e1, e2]; rfl
   rw [e1]; exact st.res (i := 1) rfl
  intro hc27
  try simp only [dn] at hc27
  obtain ⟨rfl, rfl, x, hx, rfl, rfl, rfl, rfl⟩ : rule = 0 ∧ p = 0 ∧ ∃ x : Tok, tokAt (s.drop (i + skip (s.drop i))) (i + skip (s.drop i)) = .tok x ∧ k = x.kind ∧ t = x.text ∧ wd = x.word ∧ a = x.at_ := by
   rcases hrel with h | ⟨r, q, hx, rfl, rfl⟩
   ·exact h
   ·have := bad_rule hx; omega
  have hx1 := tok_len hx
  have hxl : x.text.length ≤ s.length - (i + skip (List.drop i s)) := by have h := congrArg List.length hx1.2.1; simp at h; omega
  have hsc := scanA_tok (r := s.drop i) (i := i) (by simp; omega) (by rw [List.drop_drop]; exact hx)
  rw [List.drop_drop, ← Nat.add_assoc] at hsc
  refine kt (vk4 0 5 6 7 (sr ?_))
  refine ym ?_
  refine yla st 0 [_, _, _, _] Tryz.isAgg82 Tryz.sizeOf82 ?_
  refine vc_e (e_bs1 (l := [_, _, _, _]) st rfl rfl rfl rfl Tryz.underlying45 Tryz.sizeOf82 rfl rfl rfl Tryz.zeroValue82 ?_)
  intro b33 w hb33 st
  refine vc_e (e_app (bytes := 40) st 2 0 rfl rfl rfl rfl rfl rfl Tryz.underlying45 Tryz.info82 rfl rfl rfl rfl rfl (by simp) rfl rfl (by unfold maxLen; omega) (by omega) ?_)
  intro oa34 cap34 w st; dsimp only [setNth] at st
  refine ya ?_
  refine et (vk4 0 5 6 7 (vc_region ?_))
  refine ym ?_
  refine yfz 1 Tryz.underlying82 Tryz.sizeOf9 ?_
  refine yl st 1 Tryz.isAgg9 ?_
  refine vy (y_lens rfl Tryz.underlying9) ?_
  refine vy (y_add rfl rfl (by omega : _ = ((i + skip (List.drop i s) + x.text.length : Nat) : Int)) (by omega) (by omega)) ?_
  refine ya ?_
  refine vc_end (vq_block (vq_then (vk3 0 5 6 (vc_region ?_))))
  iterate 2 refine ym ?_
  refine vc_e (e_call [_, _] rfl rfl Tryz.call62 rfl (rskip_any s (i + skip (List.drop i s) + x.text.length) _ (by omega) (by omega)) ?_)
  rintro _ w ⟨rfl, rfl⟩
  refine ya ?_
  refine vc_end ?_
  refine vq_again (l ++ [x], i + skip (List.drop i s) + x.text.length, oa34, cap34) ⟨rfl, by simp only [List.length_append, List.length_cons, List.length_nil]; rfl, rfl, trivial⟩ ?_ ⟨by dsimp only; omega, by simp; omega, ?_, ?_⟩ (by dsimp only; omega)
  ·simp only [List.length_append, List.length_cons, List.length_nil, toksL_snoc]
   exact st.dr
  ·rw [hf1, hsc]; simp
  rw [hf2, hsc]
 intro hc15
 try simp only [dn] at hc15
 refine vc_exit (vq_then_exit (vq_then_exit (vq_block_exit (vq_then (vk1 5 (sr ?_))))))
 refine ym ?_
 iterate 3 refine ya ?_
 refine et (vk3 2 3 4 (vc_ret ?_))
 refine vq_ret3 st (.inl rfl) Tryz.results47 (.tmp rfl) (.tmp rfl) (.tmp rfl) ?_
 refine ⟨_, rfl, ?_⟩
 have hsc := scanA_end (r := s.drop i) (i := i) (by simp; omega)
 have e1 : (front s).1 = l := by rw [hf1, hsc]; simp
 have e2 : (front s).2 = none := by rw [hf2, hsc]
 refine ⟨st.chg, oa, cap, ?_, ?_⟩
 ·rw [e1, e2]; rfl
 rw [e1]; exact st.res (i := 0) rfl
theorem frontFault {s : List UInt8} {r p : Nat} (h : (front s).2 = some (r, p)) : 1 ≤ r := by
 have key : ∀ (n : Nat) (t : List UInt8) (i : Nat), t.length < n → (scanA t i).2 = some (r, p) → 1 ≤ r := by
  intro n
  induction n with
  | zero => intro t i h; omega
  | succ n ih =>
   intro t i hn h
   rcases Nat.lt_or_ge (skip t) t.length with hk | hk
   ·cases hx : tokAt (t.drop (skip t)) (i + skip t) with
    | bad rule q => rw [scanA_bad hk hx] at h; have := bad_rule hx; simp at h; omega
    | tok x => rw [scanA_tok hk hx] at h; have := (tok_len hx).1; exact ih _ _ (by simp; omega) h
   ·rw [scanA_end hk] at h; simp at h
 exact key _ s 0 (Nat.lt_succ_self _) h
set_option maxHeartbeats 1000000 in
theorem rscan_any (s : List UInt8) (w : World) : Ret Tryz.prog 30 [str s] w (ScanPost s w) := by
 refine ret_of [_] Tryz.func30 rfl Tryz.ntmps30 rfl ?_
 have st := St.init w []
 refine sr ?_
 iterate 2 refine ya ?_
 refine vc_e (e_al (l := [_, _]) st rfl rfl Tryz.zeroValue28 rfl ?_)
 intro b4 w hb4 st
 refine et (vk2 0 4 (vc_seq (sr ?_)))
 refine ym ?_
 refine vy (y_lens rfl Tryz.underlying9) ?_
 refine vy (y_gtr rfl rfl) ?_
 refine et (vk3 0 4 10 ?_)
 refine vif ?_ ?_
 ·intro hc10
  try simp only [dn] at hc10
  refine sr ?_
  refine vy (y_bld (.agg #[_, _]) [] rfl (fun w => by simp [Instr.build, go_sem] <;> repeat' constructor)) ?_
  iterate 2 refine ya ?_
  refine vc_e (e_sts (vs := [_, _]) st 0 rfl rfl rfl rfl rfl Tryz.sizeOf28 rfl rfl (by (right; assumption)) ?_)
  intro w st; dsimp only [setNth, wr] at st
  refine et (vk3 2 3 4 (vc_ret (vq_then_ret ?_)))
  refine vq_ret3 st (.inl rfl) Tryz.results30 (.tmp rfl) (.tmp rfl) (by exact .cell 0 rfl rfl Tryz.isAgg28 Tryz.sizeOf28) ?_
  refine ⟨_, rfl, ?_⟩
  have e : scanRes s = ([], 4, 0, 0) := by unfold scanRes; rw [if_pos (by omega)]
  refine ⟨st.chg, none, 0, ?_, ?_⟩
  ·rw [e]; rfl
  rw [e]; exact World.ownsRow_nil _ _ _ _
 intro hc10
 try simp only [dn] at hc10
 refine kt (vk2 0 4 (sr ?_))
 refine ym ?_
 refine vc_e (e_call [_] rfl rfl Tryz.call47 rfl (rfront_any s _ (by omega)) ?_)
 rintro _ w ⟨cw, oa, cap, rfl, how⟩
 replace st := st.pushOwn cw how
 refine ym ?_
 iterate 3 refine vy (y_ext rfl rfl) ?_
 iterate 3 refine ya ?_
 refine et (vk4 4 5 6 7 (vc_seq (sr ?_)))
 refine ym ?_
 refine vy (y_gtr rfl rfl) ?_
 refine et (vk5 4 5 6 7 19 ?_)
 refine vif ?_ ?_
 ·intro hc19
  try simp only [dn] at hc19
  refine sr ?_
  iterate 2 refine ym ?_
  refine vy (y_bld (.agg #[_, _]) [(0, _), (1, _)] rfl (fun w => by simp [Instr.build, go_sem] <;> repeat' constructor)) ?_
  iterate 2 refine ya ?_
  refine vc_e (e_sts (vs := [_, _]) st 1 rfl rfl rfl rfl rfl Tryz.sizeOf28 rfl rfl (by (right; assumption)) ?_)
  intro w st; dsimp only [setNth, wr] at st
  refine et (vk3 2 3 4 (vc_ret (vq_then_ret ?_)))
  refine vq_ret3 st (.inl rfl) Tryz.results30 (.tmp rfl) (.tmp rfl) (by exact .cell 1 rfl rfl Tryz.isAgg28 Tryz.sizeOf28) ?_
  refine ⟨_, rfl, ?_⟩
  obtain ⟨r, q, hx⟩ : ∃ r q, (front s).2 = some (r, q) := by
   cases hx : (front s).2 with
   | none => rw [hx] at hc19; simp [fRule] at hc19
   | some x => exact ⟨x.1, x.2, rfl⟩
  have e : scanRes s = ([], 20, q, r) := by unfold scanRes; rw [if_neg (by omega), hx]
  refine ⟨st.chg, none, 0, ?_, ?_⟩
  ·rw [e, hx]; rfl
  rw [e]; exact World.ownsRow_nil _ _ _ _
 intro hc19
 try simp only [dn] at hc19
 refine kt (vk2 4 5 (sr ?_))
 refine ym ?_
 refine vy (y_bld (.agg #[_, _]) [] rfl (fun w => by simp [Instr.build, go_sem] <;> repeat' constructor)) ?_
 iterate 2 refine ya ?_
 refine vc_e (e_sts (vs := [_, _]) st 1 rfl rfl rfl rfl rfl Tryz.sizeOf28 rfl rfl (by (right; assumption)) ?_)
 intro w st; dsimp only [setNth, wr] at st
 refine et (vk3 2 3 4 (vc_ret ?_))
 refine vq_ret3 st (.inl rfl) Tryz.results30 (.tmp rfl) (.tmp rfl) (by exact .cell 1 rfl rfl Tryz.isAgg28 Tryz.sizeOf28) ?_
 refine ⟨_, rfl, ?_⟩
 have hx : (front s).2 = none := by
  cases hx : (front s).2 with
  | none => rfl
  | some x => have := frontFault (s := s) (r := x.1) (p := x.2) hx; rw [hx] at hc19; simp only [fRule] at hc19; omega
 have e : scanRes s = ((front s).1, 0, 0, 0) := by unfold scanRes; rw [if_neg (by omega), hx]
 refine ⟨st.chg, oa, cap, ?_, ?_⟩
 ·rw [e]; rfl
 rw [e]; exact st.res (i := 0) rfl
theorem own : ownKnob Tryz.prog.godebug = none := by kernel_rfl
end Go.Proofs.YtggnfanphcaamaaGreatDoor


namespace Go.Proofs.YtggnfanphcaamaaGreatDoor
open Go.RowKit Sx LexS ParS _root_.Go.Proofs.Tryz
/-- a reader at a text's beginning -/
structure RNew (s : List UInt8) (n : Nat) (c : RCtx) (w' : World) : Prop where
 ts : c.ts = (front s).1
 e : c.e = s.length
 n0 : c.n0 = c.rb
 own : w'.ownsRow n 82 4 (.slice c.oa c.ts.length c.cap) c.ts.length (toksL c.ts)
 at_ : RAt c ⟨c.ts, (0, 0)⟩ w'
 le : n ≤ c.rb
 lt : ∀ b ∈ obk c.oa, b < c.rb
 slen : s.length ≤ 65536
theorem RNew.ok {s : List UInt8} {n base : Nat} {c : RCtx} {σ : RS} {w w' : World} (h : RNew s n c w) (hrow : w'.ownsRow base 82 4 (.slice c.oa c.ts.length c.cap) c.ts.length (toksL c.ts)) (hp : RAt c σ w') : RCok c w' := by
 obtain ⟨hlen, hok⟩ := front_ok (s := s) (T := (front s).1) (f := (front s).2) rfl
 have hsc := scan_right (front s).1 s 0 (front s).2 rfl
 rw [← h.ts] at hlen hok hsc
 have := h.slen
 refine ⟨?_, by rw [h.n0]; exact Nat.le_refl _, by omega, by rw [h.e]; omega, by rw [h.n0]; exact Nat.le_of_lt (Array.getElem?_eq_some_iff.1 hp).1, fun t ht => (hok t ht).2.1, fun t ht hk => ?_⟩
 ·refine (rowC_own (S := (· < c.n0)) (owns_mono hrow (fun b _ => Nat.zero_le _)) (fun b hb => by rw [h.n0]; exact h.lt b hb)).imp id fun ⟨g, off, e1, hb, hl, hc⟩ => ⟨g, off, e1, hb, hl, fun j hj => ?_⟩
  have := hc j hj
  dsimp only at this
  rw [toks_chunk (List.getElem?_eq_getElem hj)] at this
  simpa only [List.getD, List.getElem?_eq_getElem hj, Option.getD_some] using this
 ·have h1 := hsc t ht
  rw [rgt_doc, hk] at h1
  unfold docRight at h1
  simp at h1
  exact h1.1
def RBegun (s : List UInt8) (w : World) (v : Value) (w' : World) : Prop := Chg [] w w' ∧
 ((65536 < s.length ∧ v = .tuple #[.pointer none, .int .i64 4, .agg #[.int .i64 0, .int .i64 0]]) ∨
  (s.length ≤ 65536 ∧ ∃ rule p : Nat, (front s).2 = some (rule, p) ∧ v = .tuple #[.pointer none, .int .i64 30, .agg #[.int .i64 (p : Int), .int .i64 1]]) ∨
  (s.length ≤ 65536 ∧ (front s).2 = none ∧ ∃ c, RNew s w.heap.size c w' ∧ v = .tuple #[.pointer (some ⟨c.rb, 0, none⟩), .int .i64 0, .agg #[.int .i64 0, .int .i64 0]]))
theorem _root_.Sx.St.rnew {s : List UInt8} {c : RCtx} {w w' w0 : World} {M : List Nat} {hs : List Res} (st : St w0 M hs w) (ch : Chg [] w w') (h : RNew s w.heap.size c w') :
    St w0 M (.blk c.rb (.cells (rcell c ⟨c.ts, (0, 0)⟩).toArray c.T (0, 0)) :: .own (.slice c.oa c.ts.length c.cap) 82 4 c.ts.length (toksL c.ts) :: hs) w' :=
 st.push2 ch h.at_ (ownsRow_base h.own st.chg.size) (by simpa [Res.at?] using h.le) (fun k hk => (World.ownsRow.lt h.own k (by simpa [Res.at?] using hk)).1)
  (fun k hk => by
    simp only [Res.at?, List.mem_singleton] at hk
    subst hk
    intro hk'
    simp only [Res.at?, obk_own] at hk'
    exact absurd (h.lt _ hk') (Nat.lt_irrefl _))

theorem rbegun_any (s : List UInt8) (w : World) : Ret Tryz.prog 14 [str s] w (RBegun s w) := by
 refine ret_of [_] func14 rfl ntmps14 rfl ?_
 have st := St.init w []
 obtain ⟨w0, rfl⟩ : ∃ w0, w0 = w := ⟨_, rfl⟩
 refine sr ?_
 iterate 2 refine ya ?_
 refine vc_e (e_al (l := [_, _]) st rfl rfl zeroValue28 rfl ?_)
 intro b4 w hb4 st
 refine et (vk2 0 4 (vc_seq (sr ?_)))
 refine ym ?_
 refine vy (y_lens rfl underlying9) ?_
 refine vy (y_gtr rfl rfl) ?_
 refine et (vk3 0 4 10 ?_)
 refine vif ?_ ?_
 ·intro hc10
  try simp only [dn] at hc10
  have hsl : 65536 < s.length := by omega
  refine sr ?_
  refine vy (y_bld (.agg #[_, _]) [] rfl (fun w => by simp [Instr.build, go_sem] <;> repeat' constructor)) ?_
  iterate 2 refine ya ?_
  refine vc_e (e_sts (vs := [_, _]) st 0 rfl rfl rfl rfl rfl sizeOf28 rfl rfl (by (right; assumption)) ?_)
  intro w st; dsimp only [setNth, wr] at st
  refine et (vk3 2 3 4 (vc_ret (vq_then_ret ?_)))
  refine vq_ret3 st (.inl rfl) results14 (.tmp rfl) (.tmp rfl) (by exact .cell 0 rfl rfl isAgg28 sizeOf28) ?_
  refine ⟨_, rfl, ?_⟩
  exact ⟨st.chg, .inl ⟨hsl, rfl⟩⟩
 intro hc10
 try simp only [dn] at hc10
 have hsl : s.length ≤ 65536 := by omega
 refine kt (vk2 0 4 (sr ?_))
 refine ym ?_
 refine vc_e (e_call [_] rfl rfl call30 rfl (rscan_any s _) ?_)
 rintro _ w ⟨cw, to, tc, rfl, hown⟩
 replace st := St.pushOwn st cw hown
 obtain ⟨T, e, pl, ru, hT⟩ : ∃ T e pl ru, scanRes s = (T, e, pl, ru) := ⟨_, _, _, _, rfl⟩
 rw [hT] at st hown ⊢
 dsimp only at st hown ⊢
 refine ym ?_
 iterate 3 refine vy (y_ext rfl rfl) ?_
 refine vc_e (e_al (l := [_, _]) st rfl rfl zeroValue28 rfl ?_)
 intro b7 w hb7 st
 iterate 2 refine ya ?_
 refine vc_e (e_sts (vs := [_, _]) st 0 rfl rfl rfl rfl rfl sizeOf28 rfl rfl (by (right; assumption)) ?_)
 intro w st; dsimp only [setNth, wr] at st
 refine et (vk5 0 4 5 6 7 (vc_seq (sr ?_)))
 refine ym ?_
 refine vy (y_nei rfl rfl) ?_
 refine et (vk5 0 4 5 7 19 ?_)
 refine vif ?_ ?_
 ·intro hc19
  try simp only [dn] at hc19
  have hsc : (front s).2 = some (ru, pl) := by
   unfold scanRes at hT
   rw [if_neg (by omega)] at hT
   split at hT
   ·simp only [Prod.mk.injEq] at hT; omega
   ·rename_i hf; simp only [Prod.mk.injEq] at hT
    obtain ⟨-, -, rfl, rfl⟩ := hT
    exact hf
  refine vc_seq ?_
  refine vc_draw Tryz.mixed [(0, true), (1, true), (2, true), (3, true), (4, true), (5, false)] (fun w => St _ _ [.blk b7 (.cells [.int .i64 (pl : Int), .int .i64 (ru : Int)].toArray 28 (0, 0))] w) st.dr (by kernel_rfl) (by repeat (first | exact okQ_noPan | exact okQ_body | exact okQ_bodyS | refine okQ_then ?_ | refine okQ_block ?_)) rfl (by kernel_rfl) ?_
  intro w cd; replace st := st.call0 cd; clear cd
  have hS : St _ _ [.blk b7 (.cells [.int .i64 (pl : Int), .int .i64 (ru : Int)].toArray 28 (0, 0))] w := st.dr
  refine pf0 hS underlying28 sizeOf3 ?_
  refine pld hS 0 isAgg3 ?_
  refine vp_take rfl rfl rfl hS (fun w st => y_bld (.agg #[_, _]) [(0, _), (1, _)] rfl (fun w => by simp [Instr.build, go_sem] <;> repeat' constructor)) ?_
  iterate 2 refine vp_take rfl rfl rfl hS (fun w st => y_as rfl) ?_
  refine vp_do rfl (e_sts (vs := [_, _]) st 2 rfl rfl rfl rfl rfl sizeOf28 rfl rfl (by (right; assumption)) ?_)
  intro w st; dsimp only [setNth, wr] at st
  refine vp_next st.dr ?_; intro hS
  refine vp_end (vq_then (vk3 2 3 4 (vc_ret (vq_then_ret ?_))))
  refine vq_ret3 st (.inl rfl) results14 (.tmp rfl) (.tmp rfl) (by exact .cell 2 rfl rfl isAgg28 sizeOf28) ?_
  refine ⟨_, rfl, ?_⟩
  exact ⟨st.chg, .inr (.inl ⟨hsl, ru, pl, hsc, rfl⟩)⟩
 intro hc19
 try simp only [dn] at hc19
 have he : e = 0 := by omega
 subst he
 have hsc : (front s).2 = none ∧ T = (front s).1 := by
  unfold scanRes at hT
  rw [if_neg (by omega)] at hT
  split at hT
  ·rename_i hf; simp only [Prod.mk.injEq] at hT; exact ⟨hf, hT.1.symm⟩
  ·cases hT
 obtain ⟨hfr, rfl⟩ := hsc
 obtain ⟨hlen, hok⟩ := front_ok (s := s) (T := (front s).1) (f := (front s).2) rfl
 refine kt (vk3 0 4 5 (sr ?_))
 iterate 2 refine ym ?_
 refine vy (y_lens rfl underlying9) ?_
 refine vy (y_bld (.agg #[_, _, _, _, _]) [(0, _), (2, _)] rfl (fun w => by simp [Instr.build, go_sem] <;> repeat' constructor)) ?_
 have hbt : ∀ b ∈ obk to, b < w.heap.size := fun b hb => (owns_lt (st.res (i := 1) rfl) b hb).2
 refine vc_e (e_bxn (l := [_, _, _, _, _]) st rfl rfl rfl rfl ?_)
 intro b27 w hbe hb27 st
 refine vy (y_bld (.agg #[_, _]) [] rfl (fun w => by simp [Instr.build, go_sem] <;> repeat' constructor)) ?_
 iterate 2 refine ya ?_
 refine vc_e (e_sts (vs := [_, _]) st 3 rfl rfl rfl rfl rfl sizeOf28 rfl rfl (by (right; assumption)) ?_)
 intro w st; dsimp only [setNth, wr] at st
 refine et (vk3 2 3 4 (vc_ret ?_))
 refine vq_ret3 st (.inl rfl) results14 (.tmp rfl) (.tmp rfl) (by exact .cell 3 rfl rfl isAgg28 sizeOf28) ?_
 refine ⟨_, rfl, ?_⟩
 refine ⟨st.chg, .inr (.inr ⟨hsl, hfr, ⟨b27, b27, to, tc, (front s).1, s.length, 47⟩, ⟨rfl, rfl, rfl, st.res (i := 2) rfl, ?_, hb27, ?_, hsl⟩, rfl⟩)⟩
 ·show w.heap[b27]? = _
  have h2 : w.heap[b27]? = some (.cells [.slice to (front s).1.length tc, .int .i64 0, .int .i64 (s.length : Int), .int .i64 0, .int .i64 0].toArray 47 (0, 0)) := st.res (i := 0) rfl
  rw [h2]; simp [rcell]
 intro b hb; show b < b27; rw [hbe]; exact hbt b hb
end Go.Proofs.YtggnfanphcaamaaGreatDoor


namespace Go.Proofs.YtggnfanphcaamaaGreatDoor
open Go.RowKit Sx LexS ParS _root_.Go.Proofs.Tryz

set_option maxHeartbeats 1000000 in
theorem rparse_any (s : List UInt8) (w : World) : Ret Tryz.prog 6 [str s] w (ParsePost s w) := by
 refine ret_of [_] func6 rfl ntmps6 rfl ?_
 have st := St.init w []
 obtain ⟨w0, rfl⟩ : ∃ w0, w0 = w := ⟨_, rfl⟩
 refine sr ?_
 refine vc_e (e_al (l := [_, _, _]) st rfl rfl zeroValue25 rfl ?_)
 intro b2 w hb2 st
 refine ya ?_
 refine vc_e (e_al (l := [_, _]) st rfl rfl zeroValue28 rfl ?_)
 intro b4 w hb4 st
 refine et (vk3 0 2 4 (sr ?_))
 refine ym ?_
 refine vc_e (e_call [_] rfl rfl call14 rfl (rbegun_any s _) ?_)
 rintro _ w ⟨cw, hb⟩
 rcases hb with ⟨hl, rfl⟩ | ⟨hl, ru, pl, hfr, rfl⟩ | ⟨hl, hfr, c, hn, rfl⟩
 ·replace st := st.call0 cw
  have hpr : parseRes s = (pg0, 4, 0, 0) := by simp [parseRes, hl]
  refine ym ?_
  iterate 3 refine vy (y_ext rfl rfl) ?_
  refine vc_e (e_al (l := [_, _]) st rfl rfl zeroValue28 rfl ?_)
  intro b7 w hb7 st
  iterate 2 refine ya ?_
  refine vc_e (e_sts (vs := [_, _]) st 0 rfl rfl rfl rfl rfl sizeOf28 rfl rfl (by (right; assumption)) ?_)
  intro w st
  refine et (vk5 2 4 5 6 7 (vc_seq (sr ?_)))
  refine ym ?_
  refine vy (y_nei rfl rfl) ?_
  refine et (vk6 2 4 5 6 7 16 ?_)
  refine vif ?_ ?_
  ·intro hc16
   refine vc_seq ?_
   refine vc_draw Tryz.mixed [(0, true), (1, true), (2, true), (3, false), (4, true), (5, false)] (fun w => St _ _ [.blk b7 (.cells [.int .i64 0, .int .i64 0].toArray 28 (0, 0))] w) st.dr (by kernel_rfl) (by repeat (first | exact okQ_noPan | exact okQ_body | exact okQ_bodyS | refine okQ_then ?_ | refine okQ_block ?_)) rfl (by kernel_rfl) ?_
   intro w cd; replace st := st.call0 cd; clear cd
   have hS : St _ _ [.blk b7 (.cells [.int .i64 0, .int .i64 0].toArray 28 (0, 0))] w := st.dr
   refine vp_take rfl rfl rfl hS (fun w st => y_bld (.agg #[_, _, _]) [] rfl (fun w => by simp [Instr.build, go_sem] <;> repeat' constructor)) ?_
   refine pm hS ?_
   refine vp_take rfl rfl rfl hS (fun w st => y_lda (vs := [_, _]) st 0 rfl isAgg28 sizeOf28 rfl rfl) ?_
   refine vp_do rfl (e_sts (vs := [_, _, _]) st 2 rfl rfl rfl rfl rfl sizeOf25 rfl rfl (by (right; assumption)) ?_)
   intro w st
   refine vp_next st.dr ?_; intro hS
   refine vp_take rfl rfl rfl hS (fun w st => y_as rfl) ?_
   refine vp_do rfl (e_sts (vs := [_, _]) st 1 rfl rfl rfl rfl rfl sizeOf28 rfl rfl (by (right; assumption)) ?_)
   intro w st
   refine vp_next st.dr ?_; intro hS
   refine vp_end (vq_then (vk3 2 3 4 (vc_ret (vq_then_ret ?_))))
   refine vq_ret3 st (.inl rfl) results6 (by exact .cell 2 rfl rfl isAgg25 sizeOf25) (.tmp rfl) (by exact .cell 1 rfl rfl isAgg28 sizeOf28) ?_
   refine ⟨_, rfl, ?_⟩
   refine ⟨st.chg, ?_⟩
   rw [hpr]
   exact ⟨_, hp_none _ _, rfl⟩
  intro hc16
  exact absurd hc16 (by decide)
 ·replace st := st.call0 cw
  have hpr : parseRes s = (pg0, 30, pl, 1) := by simp [parseRes, Nat.not_lt.2 hl, hfr]
  refine ym ?_
  iterate 3 refine vy (y_ext rfl rfl) ?_
  refine vc_e (e_al (l := [_, _]) st rfl rfl zeroValue28 rfl ?_)
  intro b7 w hb7 st
  iterate 2 refine ya ?_
  refine vc_e (e_sts (vs := [_, _]) st 0 rfl rfl rfl rfl rfl sizeOf28 rfl rfl (by (right; assumption)) ?_)
  intro w st
  refine et (vk5 2 4 5 6 7 (vc_seq (sr ?_)))
  refine ym ?_
  refine vy (y_nei rfl rfl) ?_
  refine et (vk6 2 4 5 6 7 16 ?_)
  refine vif ?_ ?_
  ·intro hc16
   refine vc_seq ?_
   refine vc_draw Tryz.mixed [(0, true), (1, true), (2, true), (3, false), (4, true), (5, false)] (fun w => St _ _ [.blk b7 (.cells [.int .i64 (pl : Int), .int .i64 1].toArray 28 (0, 0))] w) st.dr (by kernel_rfl) (by repeat (first | exact okQ_noPan | exact okQ_body | exact okQ_bodyS | refine okQ_then ?_ | refine okQ_block ?_)) rfl (by kernel_rfl) ?_
   intro w cd; replace st := st.call0 cd; clear cd
   have hS : St _ _ [.blk b7 (.cells [.int .i64 (pl : Int), .int .i64 1].toArray 28 (0, 0))] w := st.dr
   refine vp_take rfl rfl rfl hS (fun w st => y_bld (.agg #[_, _, _]) [] rfl (fun w => by simp [Instr.build, go_sem] <;> repeat' constructor)) ?_
   refine pm hS ?_
   refine vp_take rfl rfl rfl hS (fun w st => y_lda (vs := [_, _]) st 0 rfl isAgg28 sizeOf28 rfl rfl) ?_
   refine vp_do rfl (e_sts (vs := [_, _, _]) st 2 rfl rfl rfl rfl rfl sizeOf25 rfl rfl (by (right; assumption)) ?_)
   intro w st
   refine vp_next st.dr ?_; intro hS
   refine vp_take rfl rfl rfl hS (fun w st => y_as rfl) ?_
   refine vp_do rfl (e_sts (vs := [_, _]) st 1 rfl rfl rfl rfl rfl sizeOf28 rfl rfl (by (right; assumption)) ?_)
   intro w st
   refine vp_next st.dr ?_; intro hS
   refine vp_end (vq_then (vk3 2 3 4 (vc_ret (vq_then_ret ?_))))
   refine vq_ret3 st (.inl rfl) results6 (by exact .cell 2 rfl rfl isAgg25 sizeOf25) (.tmp rfl) (by exact .cell 1 rfl rfl isAgg28 sizeOf28) ?_
   refine ⟨_, rfl, ?_⟩
   refine ⟨st.chg, ?_⟩
   rw [hpr]
   exact ⟨_, hp_none _ _, rfl⟩
  intro hc16
  exact absurd hc16 (by decide)
 ·have hw1 := st.chg.size
  replace st := st.rnew cw hn
  have hrb := Nat.le_trans hw1 hn.le
  have hpr : parseRes s = match progP c.e (c.ts.length + 1) c.ts with | .error f => (pg0, 30, f.1, f.2) | .ok p => (p, 0, 0, 0) := by
   unfold parseRes; rw [if_neg (by omega), hfr, hn.e, hn.ts]
   try rfl
  refine ym ?_
  iterate 3 refine vy (y_ext rfl rfl) ?_
  refine vc_e (e_al (l := [_, _]) st rfl rfl zeroValue28 rfl ?_)
  intro b7 w hb7 st
  iterate 2 refine ya ?_
  refine vc_e (e_sts (vs := [_, _]) st 0 rfl rfl rfl rfl rfl sizeOf28 rfl rfl (by (right; assumption)) ?_)
  intro w st
  refine et (vk5 2 4 5 6 7 (vc_seq (sr ?_)))
  refine ym ?_
  refine vy (y_nei rfl rfl) ?_
  refine et (vk6 2 4 5 6 7 16 ?_)
  refine vif ?_ ?_
  ·intro hc16
   exact absurd hc16 (by decide)
  intro hc16
  refine kt (vk3 2 4 5 (sr ?_))
  refine ym ?_
  refine vc_e (e_call [_] rfl rfl call15 rfl (rprog_any (c.ts.length + 1) c ⟨c.ts, (0, 0)⟩ (List.suffix_refl _) _ (by exact hn.ok (st.res (i := 2) rfl) (st.res (i := 1) rfl)) (by exact st.res (i := 1) rfl) (by dsimp only; omega)) ?_)
  rintro _ w ⟨p, σ, hD, hsf, hP1, cw, os, ol, ot, cs, cl, ct, Sq, rfl, hQ, hN⟩
  have hw2 := st.chg.size
  replace st := St.prsT (b := c.rb) st 1 rfl cw (.inr hrb) hP1 (holds_pg hQ) hN.2
  have hdone := prog_done rfl hD
  dsimp only at hdone hsf
  refine vc_e (e_al (l := [_, _, _]) st rfl rfl zeroValue25 rfl ?_)
  intro b8 w hb8 st
  refine vc_e (e_sts (vs := [_, _, _]) st 0 rfl rfl rfl rfl rfl sizeOf25 rfl rfl (by (right; assumption)) ?_)
  intro w st
  refine et (vk4 2 4 5 8 (vc_seq (sr ?_)))
  refine ym ?_
  refine vc_e (e_call [_] rfl rfl call16 rfl (rok_any c σ hsf _ (by exact hn.ok (st.res (i := 4) rfl) (st.res (i := 3) rfl)) (by exact st.res (i := 3) rfl)) ?_)
  rintro _ w ⟨rfl, cw⟩
  replace st := st.call0 cw
  refine vy (y_not rfl) ?_
  refine et (vk5 2 4 5 8 24 ?_)
  refine vif ?_ ?_
  ·intro hc24
   have ho : ¬ σ.ok := by simpa using hc24
   have hb : parseRes s = (pg0, 30, σ.f.1, σ.f.2) := by
    rcases hdone with ⟨f, h1, h2, h3⟩ | ⟨h1, h2⟩
    ·rw [hpr, h1, h2]
    ·exact absurd h2 ho
   refine vc_seq ?_
   refine vc_draw Tryz.mixed [(0, true), (1, true), (2, true), (3, true), (4, true), (5, true), (6, true), (7, true), (8, true), (9, true), (10, false), (11, true), (12, false)] (fun w => St _ _ [.blk c.rb (.cells (rcell c σ).toArray c.T (0, 0))] w) st.dr (by kernel_rfl) (by repeat (first | exact okQ_noPan | exact okQ_body | exact okQ_bodyS | refine okQ_then ?_ | refine okQ_block ?_)) rfl (by kernel_rfl) ?_
   intro w cd; replace st := st.call0 cd; clear cd
   have hS : St _ _ [.blk c.rb (.cells (rcell c σ).toArray c.T (0, 0))] w := st.dr
   refine vp_take rfl rfl rfl hS (fun w st => y_bld (.agg #[_, _, _]) [] rfl (fun w => by simp [Instr.build, go_sem] <;> repeat' constructor)) ?_
   refine pm hS ?_
   refine pnk hS ?_
   refine pfz hS 3 underlying47 sizeOf3 ?_
   refine pld hS 0 isAgg3 ?_
   refine pm hS ?_
   refine pnk hS ?_
   refine pfz hS 4 underlying47 sizeOf3 ?_
   refine pld hS 0 isAgg3 ?_
   refine vp_take rfl rfl rfl hS (fun w st => y_bld (.agg #[_, _]) [(0, _), (1, _)] rfl (fun w => by simp [Instr.build, go_sem] <;> repeat' constructor)) ?_
   refine vp_do rfl (e_sts (vs := [_, _, _]) st 6 rfl rfl rfl rfl rfl sizeOf25 rfl rfl (by (right; assumption)) ?_)
   intro w st
   refine vp_next st.dr ?_; intro hS
   refine vp_take rfl rfl rfl hS (fun w st => y_as rfl) ?_
   refine vp_do rfl (e_sts (vs := [_, _]) st 5 rfl rfl rfl rfl rfl sizeOf28 rfl rfl (by (right; assumption)) ?_)
   intro w st
   refine vp_next st.dr ?_; intro hS
   refine vp_end (vq_then (vk3 2 3 4 (vc_ret (vq_then_ret ?_))))
   refine vq_ret3 st (.inl rfl) results6 (by exact .cell 6 rfl rfl isAgg25 sizeOf25) (.tmp rfl) (by exact .cell 5 rfl rfl isAgg28 sizeOf28) ?_
   refine ⟨_, rfl, ?_⟩
   refine ⟨st.chg, ?_⟩
   rw [hb]
   exact ⟨_, hp_none _ _, rfl⟩
  intro hc24
  have ho : σ.ok := by simpa using hc24
  have hb : parseRes s = (p, 0, 0, 0) := by
   rcases hdone with ⟨f, h1, h2, h3⟩ | ⟨h1, h2⟩
   ·exact absurd ho (by show ¬ σ.f.2 = 0; rw [h2]; exact h3)
   ·rw [hpr, h1]
  refine kt (vk3 2 4 8 (sr ?_))
  refine yla st 0 [_, _, _] isAgg25 sizeOf25 ?_
  refine vy (y_bld (.agg #[_, _]) [] rfl (fun w => by simp [Instr.build, go_sem] <;> repeat' constructor)) ?_
  refine vc_e (e_sts (vs := [_, _, _]) st 6 rfl rfl rfl rfl rfl sizeOf25 rfl rfl (by (right; assumption)) ?_)
  intro w st
  refine ya ?_
  refine vc_e (e_sts (vs := [_, _]) st 5 rfl rfl rfl rfl rfl sizeOf28 rfl rfl (by (right; assumption)) ?_)
  intro w st
  refine et (vk3 2 3 4 (vc_ret ?_))
  refine vq_ret3 st (.inl rfl) results6 (by exact .cell 6 rfl rfl isAgg25 sizeOf25) (.tmp rfl) (by exact .cell 5 rfl rfl isAgg28 sizeOf28) ?_
  refine ⟨_, rfl, ?_⟩
  refine ⟨st.chg, ?_⟩
  rw [hb]
  exact ⟨_, ⟨os, ol, ot, cs, cl, ct, Sq, rfl, (by exact (st.res (i := 1) rfl).1), hN.le hw2⟩, rfl⟩
end Go.Proofs.YtggnfanphcaamaaGreatDoor


/- What is read of a tree that lies in rows. -/
namespace Sx
open Go Go.RowKit
variable {w : World} {S : Nat → Prop}
theorem ExRow.gets {oa : Option Addr} {es : List Ex} (h : ExRow w S oa es) (hne : 0 < es.length) : ∃ b off, oa = some ⟨b, off, none⟩ ∧ ∀ j x, es[j]? = some x → ∃ ok ck, (∀ i v, (exC x ok ck)[i]? = some v → w.cell? ⟨b, off + j * 6 + i, none⟩ = some v) ∧ ExRow w S ok x.kids := by
  obtain ⟨vs, hr, hk⟩ := h
  rcases hr with h0 | ⟨b, off, e, -, -, hc⟩
  · omega
  · refine ⟨b, off, e, fun j x hx => ?_⟩
    have hj : j < es.length := (List.getElem?_eq_some_iff.1 hx).1
    have hv := hk j x hx
    obtain ⟨-, hcell⟩ := hc j hj
    generalize vs j = l at hv hcell
    cases hv with
    | mk vs' hr' hk' => exact ⟨_, _, hcell, _, hr', hk'⟩
theorem SmRow.gets {oa : Option Addr} {es : List Sm} (h : SmRow w S oa es) (hne : 0 < es.length) : ∃ b off, oa = some ⟨b, off, none⟩ ∧ ∀ j x, es[j]? = some x → ∃ oe ob ol ce cb cl, (∀ i v, (smC x oe ob ol ce cb cl)[i]? = some v → w.cell? ⟨b, off + j * 7 + i, none⟩ = some v) ∧ ExRow w S oe x.e ∧ SmRow w S ob x.body ∧ SmRow w S ol x.els := by
  obtain ⟨vs, hr, hk⟩ := h
  rcases hr with h0 | ⟨b, off, e, -, -, hc⟩
  · omega
  · refine ⟨b, off, e, fun j x hx => ?_⟩
    have hj : j < es.length := (List.getElem?_eq_some_iff.1 hx).1
    have hv := hk j x hx
    obtain ⟨-, hcell⟩ := hc j hj
    generalize vs j = l at hv hcell
    cases hv with
    | mk vb vl he hb hbk hl hlk => exact ⟨_, _, _, _, _, _, hcell, he, ⟨_, hb, hbk⟩, _, hl, hlk⟩
theorem ThRow.gets {oa : Option Addr} {es : List Th} (h : ThRow w S oa es) (hne : 0 < es.length) : ∃ b off, oa = some ⟨b, off, none⟩ ∧ ∀ j x, es[j]? = some x → ∃ ol ob cl cb, (∀ i v, (thC x ol ob cl cb)[i]? = some v → w.cell? ⟨b, off + j * 4 + i, none⟩ = some v) ∧ DcRow w S ol x.locals ∧ SmRow w S ob x.body := by
  obtain ⟨vs, hr, hk⟩ := h
  rcases hr with h0 | ⟨b, off, e, -, -, hc⟩
  · omega
  · refine ⟨b, off, e, fun j x hx => ?_⟩
    have hj : j < es.length := (List.getElem?_eq_some_iff.1 hx).1
    obtain ⟨ol, cl, ob, cb, hl, hd, hs⟩ := hk j x hx
    obtain ⟨-, hcell⟩ := hc j hj
    rw [hl] at hcell
    exact ⟨ol, ob, cl, cb, hcell, hd, hs⟩
theorem DcRow.gets {oa : Option Addr} {ds : List Dc} (h : DcRow w S oa ds) (hne : 0 < ds.length) : ∃ b off, oa = some ⟨b, off, none⟩ ∧ ∀ j x, ds[j]? = some x → ∀ i v, (dcL x)[i]? = some v → w.cell? ⟨b, off + j * 3 + i, none⟩ = some v := by
  rcases h with h0 | ⟨b, off, e, -, -, hc⟩
  · omega
  · refine ⟨b, off, e, fun j x hx => ?_⟩
    have hj : j < ds.length := (List.getElem?_eq_some_iff.1 hx).1
    obtain ⟨-, hcell⟩ := hc j hj
    simpa only [List.getD, hx, Option.getD_some] using hcell
theorem pgS_rows {tE tS tD tT : Nat} {p : Pg} {os ol ot : Option Addr} {cs cl ct : Nat} {B : List Nat} (h : PgS tE tS tD tT w p (pgC p os ol ot cs cl ct) B) : DcRow w (fun _ => True) os p.shared ∧ DcRow w (fun _ => True) ol p.locks ∧ ThRow w (fun _ => True) ot p.threads := by
  obtain ⟨os', cs', ol', cl', ot', ct', e, h1, h2, h3⟩ := h.toV (T := fun _ => True) (fun _ _ => trivial)
  simp only [pgC, List.cons.injEq, Value.slice.injEq, and_true, true_and] at e
  obtain ⟨⟨rfl, -⟩, ⟨rfl, -⟩, rfl, -⟩ := e
  exact ⟨h1, h2, h3⟩
end Sx


/- The two texts that say whether the parser lives. -/
namespace ParS
open LexS Sx Go.RowKit Go
def liveS : List UInt8 := [115, 104, 97, 114, 101, 100, 32, 120, 32, 61, 32, 45, 51, 59, 32, 116, 104, 114, 101, 97, 100, 32, 97, 32, 123, 32, 120, 32, 61, 32, 49, 32, 43, 32, 50, 32, 42, 32, 120, 59, 32, 125]
def deadS : List UInt8 := [116, 104, 114, 101, 97, 100, 32, 97, 32, 123, 32, 120, 32, 61, 32, 49, 32, 125]
set_option maxRecDepth 100000
abbrev liveQ : Pg := ⟨[⟨[120], -3, 7⟩], [], [⟨[97], [], [.mk 1 [120] [] [.mk 4 1 0 [] [.mk 1 0 1 [] [] 30, .mk 4 3 0 [] [.mk 1 0 2 [] [] 34, .mk 2 0 0 [120] [] 38] 36] 32] [] [] 26], 22⟩]⟩
theorem live_res : parseRes liveS = (liveQ, 0, 0, 0) := by kernel_rfl
theorem dead_res : parseRes deadS = (pg0, 30, 17, 2) := by kernel_rfl

end ParS


namespace Go.Proofs.YtggnfanphcaamaaGreatDoor
open Go.RowKit Sx LexS ParS _root_.Go.Proofs.Tryz
theorem fieldsF : (Tryz.prog.fieldsOf 28).toList.map (fun f => (f.name, f.type, f.offset)) = [("At", 3, 0), ("Rule", 3, 1)] := by kernel_rfl
theorem eqFieldsF (p q r s : Int) (w : World) : (Op.eqFields 9999 [.int .i64 p, .int .i64 q].toArray [.int .i64 r, .int .i64 s].toArray (Tryz.prog.fieldsOf 28).toList).run Tryz.prog w = .ok (decide (p = r) && decide (q = s)) w := by
 have h := fieldsF
 match hf : (Tryz.prog.fieldsOf 28).toList with
 | [a, b] =>
  rw [hf] at h
  simp only [List.map_cons, List.map_nil, List.cons.injEq, Prod.mk.injEq, and_true] at h
  obtain ⟨⟨a1, a2, a3⟩, b1, b2, b3⟩ := h
  have e1 : ∀ (x y : Int) w, (part 3 [.int .i64 x, .int .i64 y].toArray 0).run Tryz.prog w = .ok (.int .i64 x) w := fun x y w => run_part1 isAgg3 rfl
  have e2 : ∀ (x y : Int) w, (part 3 [.int .i64 x, .int .i64 y].toArray 1).run Tryz.prog w = .ok (.int .i64 y) w := fun x y w => run_part1 isAgg3 rfl
  have r1 := run_equalIn_int (P := Tryz.prog) w 9998 3 .i64 .i64 p r underlying3
  have r2 := run_equalIn_int (P := Tryz.prog) w 9998 3 .i64 .i64 q s underlying3
  simp only [Op.eqFields, a1, a2, a3, b1, b2, b3, Sem.run_bind, Sem.run_ite, e1, e2, Result.andThen_ok]
  simp only [ne_eq, String.reduceEq, not_false_eq_true, if_true, Sem.run_bind, Sem.run_ite, e1, e2, r1, r2, Result.andThen_ok, Sem.run_pure]
  by_cases h1 : p = r
  ·by_cases h2 : q = s <;> simp [h1, h2]
  ·simp [h1]
 | [] => rw [hf] at h; simp at h
 | [_] => rw [hf] at h; simp at h
 | _ :: _ :: _ :: _ => rw [hf] at h; simp at h
section
variable {n : Fr} {kn : Kn} {w : World} {d ty : Nat} {pos : String} {aft : Array Edge} {g : Option (Nat × Bool)}
theorem y_neF {U : Nat} {x y : Operand} {p q r s : Int} (hx : evO kn x = some (.agg [.int .i64 p, .int .i64 q].toArray)) (hy : evO kn y = some (.agg [.int .i64 r, .int .i64 s].toArray)) : Y Tryz.prog n kn w ⟨some d, .binOp .neq 28 x y U, ty, pos, aft, g⟩ (.bool (!(decide (p = r) && decide (q = s)))) :=
 y_bo hx hy (by
   have h1 := run_eqGuard_agg (P := Tryz.prog) w .neq 28 x y [.int .i64 p, .int .i64 q].toArray [.int .i64 r, .int .i64 s].toArray (by kernel_rfl)
   have h2 := run_neq_struct (P := Tryz.prog) w 28 [.int .i64 p, .int .i64 q].toArray [.int .i64 r, .int .i64 s].toArray
   rw [run_equalIn_agg w 9999 28 _ _ (by kernel_rfl) (by kernel_rfl), eqFieldsF] at h2
   simp only [Sem.run_bind, h1, Result.andThen_ok]
   have h3 : (binOp .neq 28 (.agg [.int .i64 p, .int .i64 q].toArray) (.agg [.int .i64 r, .int .i64 s].toArray)).run Tryz.prog w = .ok (.bool (!(decide (p = r) && decide (q = s)))) w := by rw [h2]; rfl
   exact h3)
end

set_option maxHeartbeats 2000000 in
theorem lives_any (w : World) (hsg : SigAt 1 w) : Ret Tryz.prog 7 [] w fun v w' => v = .bool true ∧ Chg [] w w' := by
 refine ret_of [] func7 rfl ntmps7 rfl ?_
 have st := St.init w []
 obtain ⟨w0, rfl⟩ : ∃ w0, w0 = w := ⟨_, rfl⟩
 refine sr ?_
 refine ya ?_
 refine et (vc_keep [] trivial (sr ?_))
 refine vc_e (e_call [_] rfl rfl call5 rfl (parse_any liveS _ (hsg.kept st.chg (by simp))) ?_)
 rintro _ w h
 rw [ParsePost, live_res] at h
 obtain ⟨cw, _, ⟨os, ol, ot, cs, cl, ct, Sq, rfl, hT, hN⟩, rfl⟩ := h
 replace st := st.pushR cw (holds_pg hT) hN.2
 refine ym ?_
 iterate 3 refine vy (y_ext rfl rfl) ?_
 refine vc_e (e_al (l := [_, _, _]) st rfl rfl zeroValue25 rfl ?_)
 intro b1 w hb1 st
 refine vc_e (e_al (l := [_, _]) st rfl rfl zeroValue28 rfl ?_)
 intro b3 w hb3 st
 refine vc_e (e_sts (vs := [_, _, _]) st 1 rfl rfl rfl rfl rfl sizeOf25 rfl rfl (by (right; assumption)) ?_)
 intro w st
 refine ya ?_
 refine vc_e (e_sts (vs := [_, _]) st 0 rfl rfl rfl rfl rfl sizeOf28 rfl rfl (by (right; assumption)) ?_)
 intro w st
 refine et (vk2 1 2 (sr ?_))
 refine vc_e (e_call [_] rfl rfl call5 rfl (parse_any deadS _ (hsg.kept st.chg (by simp))) ?_)
 rintro _ w h
 rw [ParsePost, dead_res] at h
 obtain ⟨cw, _, ⟨os2, ol2, ot2, cs2, cl2, ct2, Sq2, rfl, -, -⟩, rfl⟩ := h
 replace st := st.call0 cw
 refine ym ?_
 iterate 3 refine vy (y_ext rfl rfl) ?_
 refine vc_e (e_al (l := [_, _, _]) st rfl rfl zeroValue25 rfl ?_)
 intro b4 w hb4 st
 refine vc_e (e_al (l := [_, _]) st rfl rfl zeroValue28 rfl ?_)
 intro b6 w hb6 st
 refine vc_e (e_sts (vs := [_, _, _]) st 1 rfl rfl rfl rfl rfl sizeOf25 rfl rfl (by (right; assumption)) ?_)
 intro w st
 refine ya ?_
 refine vc_e (e_sts (vs := [_, _]) st 0 rfl rfl rfl rfl rfl sizeOf28 rfl rfl (by (right; assumption)) ?_)
 intro w st
 refine et (vk4 1 2 5 6 (vc_seq (sr ?_)))
 obtain ⟨hsh, -, hth⟩ := pgS_rows (st.res (i := 4) rfl).1
 obtain ⟨bs, fs, rfl, hds⟩ := DcRow.gets hsh (by decide)
 obtain ⟨bt, ft, rfl, hts⟩ := hth.gets (by decide)
 obtain ⟨_, ob, _, cb, hthc, -, hsm⟩ := hts 0 _ rfl
 obtain ⟨bb, fb, rfl, hss⟩ := hsm.gets (by decide)
 obtain ⟨oe, _, _, ce, _, _, hsc, hex, -⟩ := hss 0 _ rfl
 obtain ⟨be, fe, rfl, hes⟩ := hex.gets (by decide)
 obtain ⟨ok, ck, hec, hkd⟩ := hes 0 _ rfl
 obtain ⟨bk, fk, rfl, hks⟩ := hkd.gets (by decide)
 obtain ⟨_, _, hkc, -⟩ := hks 1 _ rfl
 refine ym ?_
 refine vy (y_nei rfl rfl) ?_
 refine vmb ?_ ?_
 ·intro hg20
  exact absurd hg20 (by decide)
 intro hg20
 refine ym ?_
 refine vy (y_nei rfl rfl) ?_
 refine ypf ?_
 refine vmb ?_ ?_
 ·intro hg24
  exact absurd hg24 (by decide)
 intro hg24
 refine yla st 0 [_, _] isAgg28 sizeOf28 ?_
 refine vy (y_bld (.agg #[_, _]) [(0, _), (1, _)] rfl (fun w => by simp [Instr.build, go_sem] <;> repeat' constructor)) ?_
 refine vy (y_neF rfl rfl) ?_
 refine ypf ?_
 refine vmb ?_ ?_
 ·intro hg29
  exact absurd hg29 (by decide)
 intro hg29
 refine yfz 2 underlying25 sizeOf23 ?_
 refine yl st 3 isAgg23 ?_
 refine vy (y_lensl rfl underlying23) ?_
 refine vy (y_nei rfl rfl) ?_
 refine ypf ?_
 refine vmb ?_ ?_
 ·intro hg35
  exact absurd hg35 (by decide)
 intro hg35
 refine yfz 2 underlying25 sizeOf23 ?_
 refine yl st 3 isAgg23 ?_
 refine vy (y_ia (k := 0) rfl rfl underlying23 sizeOf50 rfl (by decide)) ?_
 refine vy (y_fa (k := 2) rfl underlying50 rfl rfl sizeOf48 rfl) ?_
 refine vy (y_ldc rfl isAgg48 (hthc 2 _ rfl)) ?_
 refine vy (y_lensl rfl underlying48) ?_
 refine vy (y_nei rfl rfl) ?_
 refine ypf ?_
 refine vmb ?_ ?_
 ·intro hg44
  exact absurd hg44 (by decide)
 intro hg44
 refine vy (y_fa0 rfl underlying25 rfl rfl sizeOf22 rfl) ?_
 refine yl st 3 isAgg22 ?_
 refine vy (y_lensl rfl underlying22) ?_
 refine vy (y_nei rfl rfl) ?_
 refine ypf ?_
 refine vmb ?_ ?_
 ·intro hg50
  exact absurd hg50 (by decide)
 intro hg50
 refine vy (y_fa0 rfl underlying25 rfl rfl sizeOf22 rfl) ?_
 refine yl st 3 isAgg22 ?_
 refine vy (y_ia (k := 0) rfl rfl underlying22 sizeOf52 rfl (by decide)) ?_
 refine vy (y_fa (k := 1) rfl underlying52 rfl rfl sizeOf2 rfl) ?_
 refine vy (y_ldc rfl isAgg2 (hds 0 _ rfl 1 _ rfl)) ?_
 refine vy (y_nei rfl rfl) ?_
 refine ypf ?_
 refine et (vk2 1 57 ?_)
 refine vif ?_ ?_
 ·intro hc57
  exact absurd hc57 (by decide)
 intro hc57
 refine kt (vk1 1 (sr ?_))
 refine yfz 2 underlying25 sizeOf23 ?_
 refine yl st 3 isAgg23 ?_
 refine vy (y_ia (k := 0) rfl rfl underlying23 sizeOf50 rfl (by decide)) ?_
 refine vy (y_fa (k := 2) rfl underlying50 rfl rfl sizeOf48 rfl) ?_
 refine vy (y_ldc rfl isAgg48 (hthc 2 _ rfl)) ?_
 refine vy (y_ia (k := 0) rfl rfl underlying48 sizeOf56 rfl (by decide)) ?_
 refine vy (y_fa (k := 3) rfl underlying56 rfl rfl sizeOf54 rfl) ?_
 refine vy (y_ldc rfl isAgg54 (hsc 3 _ rfl)) ?_
 refine ya ?_
 refine et (vk1 7 (sr ?_))
 refine ym ?_
 refine vy (y_lensl rfl underlying54) ?_
 refine vy (y_eqi rfl rfl) ?_
 refine vmb ?_ ?_
 ·intro hg69
  refine ym ?_
  refine vy (y_ia (k := 0) rfl rfl underlying54 sizeOf60 rfl (by decide)) ?_
  refine vy (y_fa (k := 1) rfl underlying60 rfl rfl sizeOf58 rfl) ?_
  refine vy (y_ldc rfl isAgg58 (hec 1 _ rfl)) ?_
  refine vy (y_eqi rfl rfl) ?_
  refine ypt ?_
  refine vmb ?_ ?_
  ·intro hg76
   refine ym ?_
   refine vy (y_ia (k := 0) rfl rfl underlying54 sizeOf60 rfl (by decide)) ?_
   refine vy (y_fa (k := 4) rfl underlying60 rfl rfl sizeOf54 rfl) ?_
   refine vy (y_ldc rfl isAgg54 (hec 4 _ rfl)) ?_
   refine vy (y_lensl rfl underlying54) ?_
   refine vy (y_eqi rfl rfl) ?_
   refine ypt ?_
   refine vmb ?_ ?_
   ·intro hg84
    refine ym ?_
    refine vy (y_ia (k := 0) rfl rfl underlying54 sizeOf60 rfl (by decide)) ?_
    refine vy (y_fa (k := 4) rfl underlying60 rfl rfl sizeOf54 rfl) ?_
    refine vy (y_ldc rfl isAgg54 (hec 4 _ rfl)) ?_
    refine vy (y_ia (k := 1) rfl rfl underlying54 sizeOf60 rfl (by decide)) ?_
    refine vy (y_fa (k := 1) rfl underlying60 rfl rfl sizeOf58 rfl) ?_
    refine vy (y_ldc rfl isAgg58 (hkc 1 _ rfl)) ?_
    refine vy (y_eqi rfl rfl) ?_
    refine ypt ?_
    refine ya ?_
    refine et (vk1 0 (vc_ret ?_))
    refine vq_ret1 st (.inl rfl) results7 (.tmp rfl) ?_
    refine ⟨_, rfl, ?_⟩
    exact ⟨rfl, st.chg⟩
   intro hg84
   exact absurd hg84 (by decide)
  intro hg76
  exact absurd hg76 (by decide)
 intro hg69
 exact absurd hg69 (by decide)
end Go.Proofs.YtggnfanphcaamaaGreatDoor


namespace Go.Proofs.YtggnfanphcaamaaGreatDoor
open Go.RowKit Sx LexS _root_.Go.Proofs.Tryz
abbrev Sig (w : World) : Prop := SigAt 1 w
abbrev pgL (p : Pg) (os ol ot : Option Addr) (cs cl ct : Nat) : List Value := [.slice os p.shared.length cs, .slice ol p.locks.length cl, .slice ot p.threads.length ct]
/-! ## reading rows -/
theorem RowC.at {w : World} {S : Nat → Prop} {sz n : Nat} {oa : Option Addr} {vs : Nat → List Value} (h : RowC w S sz oa n vs) (hn : 0 < n) :
    ∃ b off, oa = some ⟨b, off, none⟩ ∧ S b ∧ b < w.heap.size ∧ ∀ j, j < n → (vs j).length = sz ∧ ∀ i v, (vs j)[i]? = some v → w.cell? ⟨b, off + j * sz + i, none⟩ = some v := by
 rcases h with h | h
 ·omega
 ·exact h
abbrev szo {α : Type} [SizeOf α] (x : α) : Nat := SizeOf.sizeOf x
theorem ex_size {k op wd : Int} {nm : List UInt8} {kids : List Ex} {a : Int} : szo kids < szo (Ex.mk k op wd nm kids a) := by
 simp only [szo, Ex.mk.sizeOf_spec]; omega
theorem mem_size {α : Type} [SizeOf α] {l : List α} {j : Nat} {x : α} (h : l[j]? = some x) : szo x < szo l := List.sizeOf_lt_of_mem (List.mem_of_getElem? h)
theorem sm_size {k : Int} {nm other : List UInt8} {e : List Ex} {body els : List Sm} {a : Int} : szo body < szo (Sm.mk k nm other e body els a) ∧ szo els < szo (Sm.mk k nm other e body els a) := by
 simp only [szo, Sm.mk.sizeOf_spec]; omega
section
variable {w w' : World} {S : Nat → Prop} {M : List Nat}
/-- an expression's value -/
abbrev exL (e : Ex) (oa : Option Addr) (cap : Nat) : List Value := [.int .u8 e.k, .int .u8 e.op, .int .i64 e.wd, str e.nm, .slice oa e.kids.length cap, .int .i64 e.a]
theorem ExV.inv {e : Ex} {l : List Value} (h : ExV w S e l) : ∃ oa cap, l = exL e oa cap ∧ ExRow w S oa e.kids := by
 cases h with
 | mk vs hr hk => exact ⟨_, _, rfl, vs, hr, hk⟩
theorem ExRow.at {oa : Option Addr} {es : List Ex} (h : ExRow w S oa es) (hn : 0 < es.length) : ∃ b off, oa = some ⟨b, off, none⟩ ∧ S b ∧ b < w.heap.size ∧
    ∀ j x, es[j]? = some x → ∃ o c, ExV w S x (exL x o c) ∧ ExRow w S o x.kids ∧ ∀ i v, (exL x o c)[i]? = some v → w.cell? ⟨b, off + j * 6 + i, none⟩ = some v := by
 obtain ⟨vs, hr, hk⟩ := h
 obtain ⟨b, off, e, hb, hl, hc⟩ := RowC.at hr hn
 refine ⟨b, off, e, hb, hl, fun j x hx => ?_⟩
 have hx' := hk j x hx
 obtain ⟨o, c, e2, hr2⟩ := ExV.inv hx'
 have := (hc j (List.getElem?_eq_some_iff.1 hx).1).2
 rw [e2] at hx' this
 exact ⟨o, c, hx', hr2, this⟩
/-- a statement's value -/
abbrev smL (s : Sm) (oe ob ol : Option Addr) (ce cb cl : Nat) : List Value := [.int .u8 s.k, str s.nm, str s.other, .slice oe s.e.length ce, .slice ob s.body.length cb, .slice ol s.els.length cl, .int .i64 s.a]
theorem SmV.inv {s : Sm} {l : List Value} (h : SmV w S s l) : ∃ oe ob ol ce cb cl, l = smL s oe ob ol ce cb cl ∧ ExRow w S oe s.e ∧ SmRow w S ob s.body ∧ SmRow w S ol s.els := by
 cases h with
 | mk vb vl he hb hbk hl hlk => exact ⟨_, _, _, _, _, _, rfl, he, ⟨vb, hb, hbk⟩, ⟨vl, hl, hlk⟩⟩
theorem SmRow.at {oa : Option Addr} {es : List Sm} (h : SmRow w S oa es) (hn : 0 < es.length) : ∃ b off, oa = some ⟨b, off, none⟩ ∧ S b ∧ b < w.heap.size ∧
    ∀ j s, es[j]? = some s → ∃ oe ob ol ce cb cl, SmV w S s (smL s oe ob ol ce cb cl) ∧ ExRow w S oe s.e ∧ SmRow w S ob s.body ∧ SmRow w S ol s.els ∧ ∀ i v, (smL s oe ob ol ce cb cl)[i]? = some v → w.cell? ⟨b, off + j * 7 + i, none⟩ = some v := by
 obtain ⟨vs, hr, hk⟩ := h
 obtain ⟨b, off, e, hb, hl, hc⟩ := RowC.at hr hn
 refine ⟨b, off, e, hb, hl, fun j x hx => ?_⟩
 have hx' := hk j x hx
 obtain ⟨oe, ob, ol, ce, cb, cl, e2, h1, h2, h3⟩ := SmV.inv hx'
 have := (hc j (List.getElem?_eq_some_iff.1 hx).1).2
 rw [e2] at hx' this
 exact ⟨oe, ob, ol, ce, cb, cl, hx', h1, h2, h3, this⟩
theorem DcRow.at {oa : Option Addr} {ds : List Dc} (h : DcRow w S oa ds) (hn : 0 < ds.length) : ∃ b off, oa = some ⟨b, off, none⟩ ∧ S b ∧ b < w.heap.size ∧
    ∀ j x, ds[j]? = some x → ∀ i v, (dcL x)[i]? = some v → w.cell? ⟨b, off + j * 3 + i, none⟩ = some v := by
 obtain ⟨b, off, e, hb, hl, hc⟩ := RowC.at h hn
 refine ⟨b, off, e, hb, hl, fun j x hx => ?_⟩
 have hj := (List.getElem?_eq_some_iff.1 hx).1
 have := (hc j hj).2
 simp only [List.getD, hx, Option.getD_some] at this
 exact this
abbrev thL (t : Th) (ol ob : Option Addr) (cl cb : Nat) : List Value := [str t.nm, .slice ol t.locals.length cl, .slice ob t.body.length cb, .int .i64 t.a]
theorem ThRow.at {oa : Option Addr} {ts : List Th} (h : ThRow w S oa ts) (hn : 0 < ts.length) : ∃ b off, oa = some ⟨b, off, none⟩ ∧ S b ∧ b < w.heap.size ∧
    ∀ j t, ts[j]? = some t → ∃ ol ob cl cb, DcRow w S ol t.locals ∧ SmRow w S ob t.body ∧ ∀ i v, (thL t ol ob cl cb)[i]? = some v → w.cell? ⟨b, off + j * 4 + i, none⟩ = some v := by
 obtain ⟨vs, hr, hk⟩ := h
 obtain ⟨b, off, e, hb, hl, hc⟩ := RowC.at hr hn
 refine ⟨b, off, e, hb, hl, fun j x hx => ?_⟩
 obtain ⟨ol, cl, ob, cb, e2, h1, h2⟩ := hk j x hx
 have := (hc j (List.getElem?_eq_some_iff.1 hx).1).2
 rw [e2] at this
 exact ⟨ol, ob, cl, cb, h1, h2, this⟩
end
theorem szo_kids (e : Ex) : szo e.kids < szo e := by cases e; exact ex_size
end Go.Proofs.YtggnfanphcaamaaGreatDoor


namespace Go.Proofs.YtggnfanphcaamaaGreatDoor
open Go.RowKit Sx LexS _root_.Go.Proofs.Tryz
theorem fields80 : (Tryz.prog.fieldsOf 52).toList.map (fun f => (f.name, f.type, f.offset)) = [("Name", 9, 0), ("Word", 2, 1), ("At", 3, 2)] := by kernel_rfl
theorem eqFields80 (p q : Dc) (w : World) : (Op.eqFields 9999 (dcL p).toArray (dcL q).toArray (Tryz.prog.fieldsOf 52).toList).run Tryz.prog w = .ok (eqD p q) w := by
 have h := fields80
 match hf : (Tryz.prog.fieldsOf 52).toList with
 | [a, b, c] =>
  rw [hf] at h
  simp only [List.map_cons, List.map_nil, List.cons.injEq, Prod.mk.injEq, and_true] at h
  obtain ⟨⟨a1, a2, a3⟩, ⟨b1, b2, b3⟩, c1, c2, c3⟩ := h
  have e1 : ∀ (x : Dc) w, (part 9 (dcL x).toArray 0).run Tryz.prog w = .ok (str x.nm) w := fun x w => run_part1 isAgg9 rfl
  have e2 : ∀ (x : Dc) w, (part 2 (dcL x).toArray 1).run Tryz.prog w = .ok (.int .i64 x.wd) w := fun x w => run_part1 isAgg2 rfl
  have e3 : ∀ (x : Dc) w, (part 3 (dcL x).toArray 2).run Tryz.prog w = .ok (.int .i64 x.a) w := fun x w => run_part1 isAgg3 rfl
  have r1 := run_equalIn_string (P := Tryz.prog) w 9998 9 ⟨p.nm.toArray⟩ ⟨q.nm.toArray⟩ underlying9
  have r2 := run_equalIn_int (P := Tryz.prog) w 9998 2 .i64 .i64 p.wd q.wd underlying2
  have r3 := run_equalIn_int (P := Tryz.prog) w 9998 3 .i64 .i64 p.a q.a underlying3
  simp only [str_toList] at r1
  simp only [Op.eqFields, a1, a2, a3, b1, b2, b3, c1, c2, c3, Sem.run_bind, Sem.run_ite, e1, e2, e3, Result.andThen_ok]
  simp only [ne_eq, String.reduceEq, not_false_eq_true, if_true, Sem.run_bind, Sem.run_ite, e1, e2, e3, r1, r2, r3, Result.andThen_ok, Sem.run_pure]
  unfold eqD
  by_cases h1 : p.nm = q.nm
  ·by_cases h2 : p.wd = q.wd
   ·by_cases h3 : p.a = q.a <;> simp [h1, h2, h3]
   ·simp [h1, h2]
  ·simp [h1]
 | [] => rw [hf] at h; simp at h
 | [_] => rw [hf] at h; simp at h
 | [_, _] => rw [hf] at h; simp at h
 | _ :: _ :: _ :: _ :: _ => rw [hf] at h; simp at h
section
variable {n : Fr} {kn : Kn} {w : World} {d ty : Nat} {pos : String} {aft : Array Edge} {g : Option (Nat × Bool)}
theorem y_neD {U : Nat} {x y : Operand} {p q : Dc} (hx : evO kn x = some (.agg (dcL p).toArray)) (hy : evO kn y = some (.agg (dcL q).toArray)) : Y Tryz.prog n kn w ⟨some d, .binOp .neq 52 x y U, ty, pos, aft, g⟩ (.bool (!eqD p q)) :=
 y_bo hx hy (by
   have h1 := run_eqGuard_agg (P := Tryz.prog) w .neq 52 x y (dcL p).toArray (dcL q).toArray (by kernel_rfl)
   have h2 := run_neq_struct (P := Tryz.prog) w 52 (dcL p).toArray (dcL q).toArray
   rw [run_equalIn_agg w 9999 52 _ _ (by kernel_rfl) (by kernel_rfl), eqFields80] at h2
   simp only [Sem.run_bind, h1, Result.andThen_ok]
   have h3 : (binOp .neq 52 (.agg (dcL p).toArray) (.agg (dcL q).toArray)).run Tryz.prog w = .ok (.bool (!eqD p q)) w := by rw [h2]; rfl
   exact h3)
end
end Go.Proofs.YtggnfanphcaamaaGreatDoor

