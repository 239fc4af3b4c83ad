/- A part of the proof: contracts of functions and plain laws; each theorem says its own conditions. -/
import Derived.Test.YtggnfanphcaamaaGreatDoorK11
namespace Go.Proofs.YtggnfanphcaamaaGreatDoor
open Go.RowKit Sx LexS _root_.Go.Proofs.Tryz
set_option linter.unusedVariables false
set_option linter.unusedSimpArgs false
theorem digit_iff {c : UInt8} (h : isDigit c = true) : 48 ≤ c.toNat ∧ c.toNat ≤ 57 := by simpa [isDigit] using h
theorem tokAt_num {s : List UInt8} {i : Nat} (h : i < s.length) (hc : isLetter (s.getD i 0) = false) (hd : isDigit (s.getD i 0) = true) : tokAt (s.drop i) i =
    if (1 < ((s.drop i).takeWhile isDigit).length ∧ s.getD i 0 = 48) ∨ 9223372036854775807 < numVal ((s.drop i).takeWhile isDigit) then .bad 3 i
  else if i + ((s.drop i).takeWhile isDigit).length < s.length ∧ isLetter (s.getD (i + ((s.drop i).takeWhile isDigit).length) 0) = true then .bad 4 (i + ((s.drop i).takeWhile isDigit).length)
  else .tok ⟨3, (s.drop i).takeWhile isDigit, numVal ((s.drop i).takeWhile isDigit), i⟩ := by
 have e : tokAt (s.drop i) i = if (1 < ((s.drop i).takeWhile isDigit).length ∧ s.getD i 0 = 48) ∨ 9223372036854775807 < numVal ((s.drop i).takeWhile isDigit) then .bad 3 i
     else match (s.drop i).drop ((s.drop i).takeWhile isDigit).length with
    | d :: _ => if isLetter d then .bad 4 (i + ((s.drop i).takeWhile isDigit).length) else .tok ⟨3, (s.drop i).takeWhile isDigit, numVal ((s.drop i).takeWhile isDigit), i⟩
    | [] => .tok ⟨3, (s.drop i).takeWhile isDigit, numVal ((s.drop i).takeWhile isDigit), i⟩ := by
  rw [drop_cons h]; simp only [tokAt, hc, hd, Bool.false_eq_true, if_false, if_true]; rfl
 rw [e]
 generalize (s.drop i).takeWhile isDigit = T
 split
 ·
  rfl
 ·
  rw [List.drop_drop]
  by_cases hl : i + T.length < s.length
  ·
   rw [drop_cons hl]; simp only [hl, true_and]
  ·
   rw [List.drop_eq_nil_of_le (by omega), if_neg (by omega)]
theorem u8_eq48 {c : UInt8} (h : (c.toNat : Int) = 48) : c = 48 := by
 apply UInt8.toNat_inj.1; simp; omega
theorem num_step {s : List UInt8} {i j : Nat} (hij : i ≤ j) (hj : j < s.length) : numVal ((s.drop i).take (j + 1 - i)) = 10 * numVal ((s.drop i).take (j - i)) + ((s.getD j 0).toNat - 48) := by
 rw [← numVal_snoc, show j + 1 - i = (j - i) + 1 from by omega, List.take_succ_eq_append_getElem (by simp; omega)]
 simp [List.getD, hj, show i + (j - i) = j from by omega]

set_option maxHeartbeats 1000000 in
theorem number_rd (b : Nat) (s : List UInt8) (i : Nat) (fa fr : Int) (w : World) (hb : w.heap[b]? = some (scn s i fa fr)) (hi : i < s.length) (hs : s.length ≤ 3000000) (hc : isLetter (s.getD i 0) = false) (hd : isDigit (s.getD i 0) = true) :
    Ret Tryz.prog 58 [.pointer (some ⟨b, 0, none⟩)] w fun v w' => Chg [b] w w' ∧ RdPost b s i fa fr (tokAt (s.drop i) i) v w' := by
 refine ret_of [_] func58 rfl ntmps58 rfl ?_
 have st := St.init w [b]
 replace st := St.of1 [b] hb
 refine vc_seq (vc_region ?_)
 refine vc_e (e_al (l := [_, _, _, _]) st rfl rfl zeroValue82 rfl ?_)
 intro b2 w hb2 st
 refine vc_end (vq_then (vc_keep [(0, _), (2, _)] ⟨rfl, rfl, trivial⟩ (vc_seq (vc_region ?_))))
 refine vc_y rfl rfl (y_mv rfl) ?_
 refine vc_y rfl rfl (y_nck rfl) ?_
 refine vc_y rfl rfl ((by exact y_faz (k := 1) rfl underlying79 rfl rfl sizeOf3 rfl)) ?_
 refine vc_y rfl rfl ((by exact y_ld st 1 rfl isAgg3 rfl rfl)) ?_
 refine vc_y rfl rfl (y_as rfl) ?_
 refine vc_end (vq_then (vc_keep [(0, _), (2, _), (3, _)] ⟨rfl, rfl, rfl, trivial⟩ (vc_seq (vc_region ?_))))
 refine vc_y rfl rfl (y_as rfl) ?_
 refine vc_end (vq_then (vc_keep [(0, _), (2, _), (3, _), (4, _)] ⟨rfl, rfl, rfl, rfl, trivial⟩ (vc_seq (vc_region ?_))))
 refine vc_y rfl rfl (y_as rfl) ?_
 refine vc_end (vq_then (vc_keep [(0, _), (2, _), (3, _), (4, _), (5, _)] ⟨rfl, rfl, rfl, rfl, rfl, trivial⟩ (vc_seq (vc_block ?_))))
 refine vc_loop (w0 := _) (M := _) (fun (x : Nat × Nat × Bool) => [(0, .pointer (some ⟨b, 0, none⟩)), (2, .pointer (some ⟨b2, 0, none⟩)), (3, .int .i64 (i : Int)), (4, .int .u64 (x.2.1 : Int)), (5, .bool x.2.2)]) (fun x => [.blk b2 (.cells zeroL.toArray 82 (0, 0)), .blk b (scn s x.1 fa fr)]) (fun x _ => i ≤ x.1 ∧ x.1 ≤ s.length ∧ (s.drop i).takeWhile isDigit = (s.drop i).take (x.1 - i) ++ (s.drop x.1).takeWhile isDigit ∧ x.2.1 < 18446744073709551616 ∧ x.2.2 = decide (9223372036854775807 < numVal ((s.drop i).take (x.1 - i))) ∧ (x.2.2 = false → x.2.1 = numVal ((s.drop i).take (x.1 - i)))) (fun x => s.length - x.1) (i, 0, false) ⟨rfl, rfl, rfl, rfl, rfl, trivial⟩ st ⟨by simp, by simp; omega, by simp, by simp, by simp [numVal], by simp [numVal]⟩ ?_
 rintro ⟨j, n, gr⟩ w ⟨hij, hj, he, hn64, hgr, hn⟩ st
 dsimp only at *
 refine vc_seq (vc_seq ?_)
 refine vc_draw Tryz.mixed [(0, true), (1, true), (2, true), (3, true), (4, true), (5, true), (6, true), (7, true), (8, true), (9, true), (10, true), (11, true), (12, true), (13, true), (14, true), (15, true), (16, true), (17, true), (18, true), (19, true), (20, false), (21, true)] (fun w => St _ _ _ w) st (by kernel_rfl) (by repeat (first | exact okQ_body | refine okQ_then ?_ | refine okQ_block ?_)) rfl (by kernel_rfl) ?_
 intro w cd; replace st := st.call0 cd; clear cd
 have hS := st
 refine vp_take rfl rfl rfl hS (fun w st => y_mv rfl) ?_
 refine vp_take rfl rfl rfl hS (fun w st => y_nck rfl) ?_
 refine vp_take rfl rfl rfl hS (fun w st => (by exact y_faz (k := 1) rfl underlying79 rfl rfl sizeOf3 rfl)) ?_
 refine vp_take rfl rfl rfl hS (fun w st => (by exact y_ld st 1 rfl isAgg3 rfl rfl)) ?_
 refine vp_take rfl rfl rfl hS (fun w st => y_mv rfl) ?_
 refine vp_take rfl rfl rfl hS (fun w st => y_nck rfl) ?_
 refine vp_take rfl rfl rfl hS (fun w st => y_fa0 rfl underlying79 rfl rfl sizeOf9 rfl) ?_
 refine vp_take rfl rfl rfl hS (fun w st => (by exact y_ld st 1 rfl isAgg9 rfl rfl)) ?_
 refine vp_take rfl rfl rfl hS (fun w st => y_lens rfl underlying9) ?_
 refine vp_take rfl rfl rfl hS (fun w st => y_lss rfl rfl) ?_
 refine vp_part rfl rfl rfl hS rfl ?_ ?_
 ·
  intro hg21
  try simp only [dn] at hg21
  refine vp_take rfl rfl rfl hS (fun w st => y_mv rfl) ?_
  refine vp_take rfl rfl rfl hS (fun w st => y_nck rfl) ?_
  refine vp_take rfl rfl rfl hS (fun w st => y_fa0 rfl underlying79 rfl rfl sizeOf9 rfl) ?_
  refine vp_take rfl rfl rfl hS (fun w st => (by exact y_ld st 1 rfl isAgg9 rfl rfl)) ?_
  refine vp_take rfl rfl rfl hS (fun w st => y_mv rfl) ?_
  refine vp_take rfl rfl rfl hS (fun w st => y_nck rfl) ?_
  refine vp_take rfl rfl rfl hS (fun w st => (by exact y_faz (k := 1) rfl underlying79 rfl rfl sizeOf3 rfl)) ?_
  refine vp_take rfl rfl rfl hS (fun w st => (by exact y_ld st 1 rfl isAgg3 rfl rfl)) ?_
  refine vp_take rfl rfl rfl hS (fun w st => y_ixs (k := _) rfl rfl underlying9 rfl (by omega)) ?_
  refine vp_do rfl (e_call [_] rfl rfl call60 rfl (digit_any _ _) ?_)
  rintro _ _ ⟨rfl, rfl⟩
  refine vp_next (by exact st) ?_; intro hS
  refine vp_take rfl rfl rfl hS (fun w st => y_pickt rfl rfl) ?_
  refine vp_end (vq_then (vc_keep [(0, _), (2, _), (3, _), (4, _), (5, _), (32, _)] ⟨rfl, rfl, rfl, rfl, rfl, rfl, trivial⟩ ?_))
  refine vc_ifs rfl ?_ ?_
  ·
   intro hc32
   try simp only [dn] at hc32
   have hdg := digit_iff hc32
   refine vc_code_skip (vq_then (vc_keep [(0, _), (2, _), (3, _), (4, _), (5, _)] ⟨rfl, rfl, rfl, rfl, rfl, trivial⟩ (vc_block (vc_seq ?_))))
   refine vc_draw Tryz.mixed [(0, true), (1, true), (2, true), (3, true), (4, true), (5, true), (6, true), (7, true), (8, true), (9, true), (10, true), (11, true)] (fun w => St _ _ _ w) st (by kernel_rfl) (by repeat (first | exact okQ_body | refine okQ_then ?_ | refine okQ_block ?_)) rfl (by kernel_rfl) ?_
   intro w cd; replace st := st.call0 cd; clear cd
   have hS := st
   refine vp_take rfl rfl rfl hS (fun w st => y_mv rfl) ?_
   refine vp_take rfl rfl rfl hS (fun w st => y_nck rfl) ?_
   refine vp_take rfl rfl rfl hS (fun w st => y_fa0 rfl underlying79 rfl rfl sizeOf9 rfl) ?_
   refine vp_take rfl rfl rfl hS (fun w st => (by exact y_ld st 1 rfl isAgg9 rfl rfl)) ?_
   refine vp_take rfl rfl rfl hS (fun w st => y_mv rfl) ?_
   refine vp_take rfl rfl rfl hS (fun w st => y_nck rfl) ?_
   refine vp_take rfl rfl rfl hS (fun w st => (by exact y_faz (k := 1) rfl underlying79 rfl rfl sizeOf3 rfl)) ?_
   refine vp_take rfl rfl rfl hS (fun w st => (by exact y_ld st 1 rfl isAgg3 rfl rfl)) ?_
   refine vp_take rfl rfl rfl hS (fun w st => y_ixs (k := _) rfl rfl underlying9 rfl (by omega)) ?_
   refine vp_take rfl rfl rfl hS (fun w st => y_subk rfl rfl (by rw [wrap_u8]; omega : _ = (((s.getD j 0).toNat - 48 : Nat) : Int))) ?_
   refine vp_take rfl rfl rfl hS (fun w st => y_cvi rfl underlying105 underlying5 (by rw [wrap_u64]; omega : _ = (((s.getD j 0).toNat - 48 : Nat) : Int))) ?_
   refine vp_take rfl rfl rfl hS (fun w st => y_as rfl) ?_
   refine vp_end (vq_then (vc_keep [(0, _), (2, _), (3, _), (4, _), (5, _), (6, _)] ⟨rfl, rfl, rfl, rfl, rfl, rfl, trivial⟩ (vc_seq (vc_region ?_))))
   refine vc_y rfl rfl (y_mv rfl) ?_
   refine vc_e (e_mvb rfl rfl rfl ?_ ?_)
   ·
    intro hg45
    try simp only [dn] at hg45
    iterate 5 refine vc_e (e_skip rfl rfl ?_)
    refine vc_y rfl rfl (y_pickt rfl rfl) ?_
    refine vc_y rfl rfl (y_as rfl) ?_
    refine vc_end (vq_then (vc_keep [(0, _), (2, _), (3, _), (4, _), (5, _), (6, _)] ⟨rfl, rfl, rfl, rfl, rfl, rfl, trivial⟩ (vc_seq (vc_region ?_))))
    refine vc_y rfl rfl (y_mv rfl) ?_
    refine vc_y rfl rfl (y_mulk rfl rfl (by rw [wrap_u64]; omega : _ = ((n * 10 % 18446744073709551616 : Nat) : Int))) ?_
    refine vc_y rfl rfl (y_mv rfl) ?_
    refine vc_y rfl rfl (y_addk rfl rfl (by rw [wrap_u64]; omega : _ = (((n * 10 % 18446744073709551616 + ((s.getD j 0).toNat - 48)) % 18446744073709551616 : Nat) : Int))) ?_
    refine vc_y rfl rfl (y_as rfl) ?_
    refine vc_end (vq_then (vc_keep [(0, _), (2, _), (3, _), (4, _), (5, _)] ⟨rfl, rfl, rfl, rfl, rfl, trivial⟩ (vc_region ?_)))
    refine vc_y rfl rfl (y_mv rfl) ?_
    refine vc_y rfl rfl (y_nck rfl) ?_
    refine vc_y rfl rfl ((by exact y_faz (k := 1) rfl underlying79 rfl rfl sizeOf3 rfl)) ?_
    refine vc_y rfl rfl ((by exact y_ld st 1 rfl isAgg3 rfl rfl)) ?_
    refine vc_y rfl rfl (y_add rfl rfl rfl (by omega) (by omega)) ?_
    refine vc_y rfl rfl (y_nck rfl) ?_
    refine vc_y rfl rfl ((by exact y_faz (k := 1) rfl underlying79 rfl rfl sizeOf3 rfl)) ?_
    refine vc_e (e_st st 1 rfl rfl rfl rfl sizeOf3 rfl rfl (by first | (right; assumption) | (left; simp)) ?_)
    intro w st; dsimp only [setNth, wr] at st
    refine vc_end (vq_block ?_)
    refine vq_again (j + 1, (n * 10 % 18446744073709551616 + ((s.getD j 0).toNat - 48)) % 18446744073709551616, true)  ⟨rfl, rfl, rfl, rfl, rfl, trivial⟩ st ?_ ?_
    ·
     refine ⟨by omega, by omega, tw_step hij (by omega) (by assumption) he, Nat.mod_lt _ (by decide), ?_, ?_⟩
     all_goals (dsimp only; have hns := num_step hij (show j < s.length by omega))
     ·
      rw [hns]
      first
      | (symm; rw [decide_eq_true_eq]; subst hg45; have hh := hgr.symm; rw [decide_eq_true_eq] at hh; omega)
      | (have hz : n = numVal ((s.drop i).take (j - i)) := hn hg45
         rw [Bool.eq_iff_iff, decide_eq_true_eq, decide_eq_true_eq, ← hz]; omega)
     ·
      intro hf
      first
      | (cases hf; done)
      | (have hz : n = numVal ((s.drop i).take (j - i)) := hn hg45
         rw [decide_eq_false_iff_not] at hf
         rw [hns, ← hz]; omega)
    ·
     dsimp only; omega
   ·
    intro hg45
    try simp only [dn] at hg45
    iterate 2 refine vc_y rfl rfl (y_mv rfl) ?_
    refine vc_y rfl rfl (y_subk rfl rfl (by rw [wrap_u64]; omega : _ = ((9223372036854775807 - ((s.getD j 0).toNat - 48) : Nat) : Int))) ?_
    refine vc_y rfl rfl (y_quok rfl rfl (by omega) (by omega) (by rw [wrap_u64]; omega : _ = (((9223372036854775807 - ((s.getD j 0).toNat - 48)) / 10 : Nat) : Int))) ?_
    refine vc_y rfl rfl (y_gtr rfl rfl) ?_
    refine vc_y rfl rfl (y_pickf rfl rfl) ?_
    refine vc_y rfl rfl (y_as rfl) ?_
    refine vc_end (vq_then (vc_keep [(0, _), (2, _), (3, _), (4, _), (5, _), (6, _)] ⟨rfl, rfl, rfl, rfl, rfl, rfl, trivial⟩ (vc_seq (vc_region ?_))))
    refine vc_y rfl rfl (y_mv rfl) ?_
    refine vc_y rfl rfl (y_mulk rfl rfl (by rw [wrap_u64]; omega : _ = ((n * 10 % 18446744073709551616 : Nat) : Int))) ?_
    refine vc_y rfl rfl (y_mv rfl) ?_
    refine vc_y rfl rfl (y_addk rfl rfl (by rw [wrap_u64]; omega : _ = (((n * 10 % 18446744073709551616 + ((s.getD j 0).toNat - 48)) % 18446744073709551616 : Nat) : Int))) ?_
    refine vc_y rfl rfl (y_as rfl) ?_
    refine vc_end (vq_then (vc_keep [(0, _), (2, _), (3, _), (4, _), (5, _)] ⟨rfl, rfl, rfl, rfl, rfl, trivial⟩ (vc_region ?_)))
    refine vc_y rfl rfl (y_mv rfl) ?_
    refine vc_y rfl rfl (y_nck rfl) ?_
    refine vc_y rfl rfl ((by exact y_faz (k := 1) rfl underlying79 rfl rfl sizeOf3 rfl)) ?_
    refine vc_y rfl rfl ((by exact y_ld st 1 rfl isAgg3 rfl rfl)) ?_
    refine vc_y rfl rfl (y_add rfl rfl rfl (by omega) (by omega)) ?_
    refine vc_y rfl rfl (y_nck rfl) ?_
    refine vc_y rfl rfl ((by exact y_faz (k := 1) rfl underlying79 rfl rfl sizeOf3 rfl)) ?_
    refine vc_e (e_st st 1 rfl rfl rfl rfl sizeOf3 rfl rfl (by first | (right; assumption) | (left; simp)) ?_)
    intro w st; dsimp only [setNth, wr] at st
    refine vc_end (vq_block ?_)
    refine vq_again (j + 1, (n * 10 % 18446744073709551616 + ((s.getD j 0).toNat - 48)) % 18446744073709551616, decide ((((9223372036854775807 - ((s.getD j 0).toNat - 48)) / 10 : Nat) : Int) < (n : Int)))  ⟨rfl, rfl, rfl, rfl, rfl, trivial⟩ st ?_ ?_
    ·
     refine ⟨by omega, by omega, tw_step hij (by omega) (by assumption) he, Nat.mod_lt _ (by decide), ?_, ?_⟩
     all_goals (dsimp only; have hns := num_step hij (show j < s.length by omega))
     ·
      rw [hns]
      first
      | (symm; rw [decide_eq_true_eq]; subst hg45; have hh := hgr.symm; rw [decide_eq_true_eq] at hh; omega)
      | (have hz : n = numVal ((s.drop i).take (j - i)) := hn hg45
         rw [Bool.eq_iff_iff, decide_eq_true_eq, decide_eq_true_eq, ← hz]; omega)
     ·
      intro hf
      first
      | (cases hf; done)
      | (have hz : n = numVal ((s.drop i).take (j - i)) := hn hg45
         rw [decide_eq_false_iff_not] at hf
         rw [hns, ← hz]; omega)
    ·
     dsimp only; omega
  ·
   intro hc32
   try simp only [dn] at hc32
   have hT := tw_end (fun _ => by assumption) he
   refine vc_exit (vq_then_exit (vq_then_exit (vq_block_exit (vq_then (vc_keep [(0, _), (2, _), (3, _), (4, _), (5, _)] ⟨rfl, rfl, rfl, rfl, rfl, trivial⟩ (vc_seq (vc_block (vc_seq (vc_region ?_)))))))))
   refine vc_y rfl rfl (y_mv rfl) ?_
   refine vc_y rfl rfl (y_nck rfl) ?_
   refine vc_y rfl rfl ((by exact y_faz (k := 1) rfl underlying79 rfl rfl sizeOf3 rfl)) ?_
   refine vc_y rfl rfl ((by exact y_ld st 1 rfl isAgg3 rfl rfl)) ?_
   refine vc_y rfl rfl (y_mv rfl) ?_
   refine vc_y rfl rfl (y_add rfl rfl rfl (by omega) (by omega)) ?_
   refine vc_y rfl rfl (y_gtr rfl rfl) ?_
   refine vc_e (e_mvb rfl rfl rfl ?_ ?_)
   ·
    intro hg71
    try simp only [dn] at hg71
    refine vc_y rfl rfl (y_mv rfl) ?_
    refine vc_y rfl rfl (y_nck rfl) ?_
    refine vc_y rfl rfl (y_fa0 rfl underlying79 rfl rfl sizeOf9 rfl) ?_
    refine vc_y rfl rfl ((by exact y_ld st 1 rfl isAgg9 rfl rfl)) ?_
    refine vc_y rfl rfl (y_mv rfl) ?_
    refine vc_y rfl rfl (y_ixs (k := _) rfl rfl underlying9 rfl (by omega)) ?_
    refine vc_y rfl rfl (y_eqi rfl rfl) ?_
    refine vc_y rfl rfl (y_pickt rfl rfl) ?_
    refine vc_e (e_mvb rfl rfl rfl ?_ ?_)
    ·
     intro hg80
     try simp only [dn] at hg80
     refine vc_e (e_skip rfl rfl ?_)
     refine vc_y rfl rfl (y_pickt rfl rfl) ?_
     refine vc_y rfl rfl (y_as rfl) ?_
     refine vc_end (vq_then (vc_keep [(0, _), (2, _), (3, _), (4, _), (63, _)] ⟨rfl, rfl, rfl, rfl, rfl, trivial⟩ ?_))
     refine vc_ift rfl ?_
     refine vc_seq (vc_region ?_)
     iterate 2 refine vc_y rfl rfl (y_mv rfl) ?_
     refine vc_e (e_call [_, _, _] rfl rfl call70 rfl (wrong_any b s _ _ _ _ _ _ (st.res (i := 1) rfl)) ?_)
     rintro _ w ⟨rfl, cw, hw⟩
     replace st := st.turn (i := 1) (r' := .blk b _) rfl rfl rfl cw (.inl (by simp)) hw
     dsimp only [setNth] at st
     refine vc_e (e_sts (vs := [_, _, _, _]) st 0 rfl rfl rfl rfl rfl sizeOf82 rfl rfl (by first | (right; assumption) | (left; simp)) ?_)
     intro w st; dsimp only [setNth, wr] at st
     refine vc_end (vq_then (vc_keep [(2, _)] ⟨rfl, trivial⟩ (vc_ret (vq_block_ret (vq_then_ret ?_)))))
     refine vq_ret1 st (.inl rfl) results58 (by exact .cell 0 rfl rfl isAgg82 sizeOf82) ?_
     refine ⟨_, rfl, ?_⟩
     have hlen : (List.take (j - i) (List.drop i s)).length = j - i := by simp; omega
     have hpos : i < j := by
      rcases Nat.lt_or_ge i j with h | h
      ·
       exact h
      ·
       exfalso
       rw [show j - i = 0 by omega, List.take_zero, drop_cons hi, List.takeWhile_cons, if_pos hd] at hT
       cases hT
     refine ⟨st.chg, ?_⟩
     rw [tokAt_num hi hc hd, hT, hlen, show i + (j - i) = j by omega]
     have hr := st.res (i := 1) rfl
     first
     | (rw [if_pos (.inl ⟨by omega, u8_eq48 (by assumption)⟩)]; exact ⟨rfl, _, hr⟩)
     | (rw [if_pos (.inr (of_decide_eq_true (by rw [← hgr]; assumption)))]; exact ⟨rfl, _, hr⟩)
     | (have hNB : ¬((1 < j - i ∧ s.getD i 0 = 48) ∨ 9223372036854775807 < numVal (List.take (j - i) (List.drop i s))) := by
          rintro (⟨h1, h2⟩ | h2)
          · have h3 : ((s.getD i 0).toNat : Int) = 48 := by rw [h2]; rfl
            omega
          · omega
        rw [if_neg hNB]
        first
        | (rw [if_pos ⟨by omega, by assumption⟩]; exact ⟨rfl, _, hr⟩)
        | (rw [if_neg (by rintro ⟨h1, h2⟩; first | omega | simp_all)]
           exact ⟨by rw [← hnn]; rfl, by dsimp only; rw [hlen, show i + (j - i) = j by omega]; exact hr⟩))
    ·
     intro hg80
     try simp only [dn] at hg80
     refine vc_y rfl rfl (y_mv rfl) ?_
     refine vc_y rfl rfl (y_pickf rfl rfl) ?_
     refine vc_y rfl rfl (y_as rfl) ?_
     refine vc_end (vq_then (vc_keep [(0, _), (2, _), (3, _), (4, _), (63, _)] ⟨rfl, rfl, rfl, rfl, rfl, trivial⟩ ?_))
     refine vc_ifs rfl ?_ ?_
     ·
      intro hc63
      try simp only [dn] at hc63
      refine vc_seq (vc_region ?_)
      iterate 2 refine vc_y rfl rfl (y_mv rfl) ?_
      refine vc_e (e_call [_, _, _] rfl rfl call70 rfl (wrong_any b s _ _ _ _ _ _ (st.res (i := 1) rfl)) ?_)
      rintro _ w ⟨rfl, cw, hw⟩
      replace st := st.turn (i := 1) (r' := .blk b _) rfl rfl rfl cw (.inl (by simp)) hw
      dsimp only [setNth] at st
      refine vc_e (e_sts (vs := [_, _, _, _]) st 0 rfl rfl rfl rfl rfl sizeOf82 rfl rfl (by first | (right; assumption) | (left; simp)) ?_)
      intro w st; dsimp only [setNth, wr] at st
      refine vc_end (vq_then (vc_keep [(2, _)] ⟨rfl, trivial⟩ (vc_ret (vq_block_ret (vq_then_ret ?_)))))
      refine vq_ret1 st (.inl rfl) results58 (by exact .cell 0 rfl rfl isAgg82 sizeOf82) ?_
      refine ⟨_, rfl, ?_⟩
      have hlen : (List.take (j - i) (List.drop i s)).length = j - i := by simp; omega
      have hpos : i < j := by
       rcases Nat.lt_or_ge i j with h | h
       ·
        exact h
       ·
        exfalso
        rw [show j - i = 0 by omega, List.take_zero, drop_cons hi, List.takeWhile_cons, if_pos hd] at hT
        cases hT
      refine ⟨st.chg, ?_⟩
      rw [tokAt_num hi hc hd, hT, hlen, show i + (j - i) = j by omega]
      have hr := st.res (i := 1) rfl
      first
      | (rw [if_pos (.inl ⟨by omega, u8_eq48 (by assumption)⟩)]; exact ⟨rfl, _, hr⟩)
      | (rw [if_pos (.inr (of_decide_eq_true (by rw [← hgr]; assumption)))]; exact ⟨rfl, _, hr⟩)
      | (have hNB : ¬((1 < j - i ∧ s.getD i 0 = 48) ∨ 9223372036854775807 < numVal (List.take (j - i) (List.drop i s))) := by
           rintro (⟨h1, h2⟩ | h2)
           · have h3 : ((s.getD i 0).toNat : Int) = 48 := by rw [h2]; rfl
             omega
           · omega
         rw [if_neg hNB]
         first
         | (rw [if_pos ⟨by omega, by assumption⟩]; exact ⟨rfl, _, hr⟩)
         | (rw [if_neg (by rintro ⟨h1, h2⟩; first | omega | simp_all)]
            exact ⟨by rw [← hnn]; rfl, by dsimp only; rw [hlen, show i + (j - i) = j by omega]; exact hr⟩))
     ·
      intro hc63
      try simp only [dn] at hc63
      have hnn := hn hc63
      have hM : n ≤ 9223372036854775807 := by rw [hc63] at hgr; have := of_decide_eq_false hgr.symm; omega
      refine vc_seq ?_
      refine vc_draw Tryz.mixed [(0, true), (1, true), (2, true), (3, true), (4, true), (5, true), (6, true), (7, true), (8, true), (9, true), (10, true), (11, true), (12, true), (13, true), (14, true), (15, true), (16, true), (17, true), (18, true), (19, true), (20, false), (21, true), (22, true)] (fun w => St _ _ _ w) st (by kernel_rfl) (by repeat (first | exact okQ_body | refine okQ_then ?_ | refine okQ_block ?_)) rfl (by kernel_rfl) ?_
      intro w cd; replace st := st.call0 cd; clear cd
      have hS := st
      refine vp_take rfl rfl rfl hS (fun w st => y_mv rfl) ?_
      refine vp_take rfl rfl rfl hS (fun w st => y_nck rfl) ?_
      refine vp_take rfl rfl rfl hS (fun w st => (by exact y_faz (k := 1) rfl underlying79 rfl rfl sizeOf3 rfl)) ?_
      refine vp_take rfl rfl rfl hS (fun w st => (by exact y_ld st 1 rfl isAgg3 rfl rfl)) ?_
      refine vp_take rfl rfl rfl hS (fun w st => y_mv rfl) ?_
      refine vp_take rfl rfl rfl hS (fun w st => y_nck rfl) ?_
      refine vp_take rfl rfl rfl hS (fun w st => y_fa0 rfl underlying79 rfl rfl sizeOf9 rfl) ?_
      refine vp_take rfl rfl rfl hS (fun w st => (by exact y_ld st 1 rfl isAgg9 rfl rfl)) ?_
      refine vp_take rfl rfl rfl hS (fun w st => y_lens rfl underlying9) ?_
      refine vp_take rfl rfl rfl hS (fun w st => y_lss rfl rfl) ?_
      refine vp_part rfl rfl rfl hS rfl ?_ ?_
      ·
       intro hg97
       try simp only [dn] at hg97
       refine vp_take rfl rfl rfl hS (fun w st => y_mv rfl) ?_
       refine vp_take rfl rfl rfl hS (fun w st => y_nck rfl) ?_
       refine vp_take rfl rfl rfl hS (fun w st => y_fa0 rfl underlying79 rfl rfl sizeOf9 rfl) ?_
       refine vp_take rfl rfl rfl hS (fun w st => (by exact y_ld st 1 rfl isAgg9 rfl rfl)) ?_
       refine vp_take rfl rfl rfl hS (fun w st => y_mv rfl) ?_
       refine vp_take rfl rfl rfl hS (fun w st => y_nck rfl) ?_
       refine vp_take rfl rfl rfl hS (fun w st => (by exact y_faz (k := 1) rfl underlying79 rfl rfl sizeOf3 rfl)) ?_
       refine vp_take rfl rfl rfl hS (fun w st => (by exact y_ld st 1 rfl isAgg3 rfl rfl)) ?_
       refine vp_take rfl rfl rfl hS (fun w st => y_ixs (k := _) rfl rfl underlying9 rfl (by omega)) ?_
       refine vp_do rfl (e_call [_] rfl rfl call59 rfl (letter_any _ _) ?_)
       rintro _ _ ⟨rfl, rfl⟩
       refine vp_next (by exact st) ?_; intro hS
       refine vp_take rfl rfl rfl hS (fun w st => y_pickt rfl rfl) ?_
       refine vp_take rfl rfl rfl hS (fun w st => y_as rfl) ?_
       refine vp_end (vq_then (vc_keep [(0, _), (2, _), (3, _), (4, _), (86, _)] ⟨rfl, rfl, rfl, rfl, rfl, trivial⟩ ?_))
       refine vc_ifs rfl ?_ ?_
       ·
        intro hc86
        try simp only [dn] at hc86
        refine vc_seq (vc_region ?_)
        iterate 2 refine vc_y rfl rfl (y_mv rfl) ?_
        refine vc_y rfl rfl (y_nck rfl) ?_
        refine vc_y rfl rfl ((by exact y_faz (k := 1) rfl underlying79 rfl rfl sizeOf3 rfl)) ?_
        refine vc_y rfl rfl ((by exact y_ld st 1 rfl isAgg3 rfl rfl)) ?_
        refine vc_e (e_call [_, _, _] rfl rfl call70 rfl (wrong_any b s _ _ _ _ _ _ (st.res (i := 1) rfl)) ?_)
        rintro _ w ⟨rfl, cw, hw⟩
        replace st := st.turn (i := 1) (r' := .blk b _) rfl rfl rfl cw (.inl (by simp)) hw
        dsimp only [setNth] at st
        refine vc_e (e_sts (vs := [_, _, _, _]) st 0 rfl rfl rfl rfl rfl sizeOf82 rfl rfl (by first | (right; assumption) | (left; simp)) ?_)
        intro w st; dsimp only [setNth, wr] at st
        refine vc_end (vq_then (vc_keep [(2, _)] ⟨rfl, trivial⟩ (vc_ret (vq_block_ret (vq_then_ret ?_)))))
        refine vq_ret1 st (.inl rfl) results58 (by exact .cell 0 rfl rfl isAgg82 sizeOf82) ?_
        refine ⟨_, rfl, ?_⟩
        have hlen : (List.take (j - i) (List.drop i s)).length = j - i := by simp; omega
        have hpos : i < j := by
         rcases Nat.lt_or_ge i j with h | h
         ·
          exact h
         ·
          exfalso
          rw [show j - i = 0 by omega, List.take_zero, drop_cons hi, List.takeWhile_cons, if_pos hd] at hT
          cases hT
        refine ⟨st.chg, ?_⟩
        rw [tokAt_num hi hc hd, hT, hlen, show i + (j - i) = j by omega]
        have hr := st.res (i := 1) rfl
        first
        | (rw [if_pos (.inl ⟨by omega, u8_eq48 (by assumption)⟩)]; exact ⟨rfl, _, hr⟩)
        | (rw [if_pos (.inr (of_decide_eq_true (by rw [← hgr]; assumption)))]; exact ⟨rfl, _, hr⟩)
        | (have hNB : ¬((1 < j - i ∧ s.getD i 0 = 48) ∨ 9223372036854775807 < numVal (List.take (j - i) (List.drop i s))) := by
             rintro (⟨h1, h2⟩ | h2)
             · have h3 : ((s.getD i 0).toNat : Int) = 48 := by rw [h2]; rfl
               omega
             · omega
           rw [if_neg hNB]
           first
           | (rw [if_pos ⟨by omega, by assumption⟩]; exact ⟨rfl, _, hr⟩)
           | (rw [if_neg (by rintro ⟨h1, h2⟩; first | omega | simp_all)]
              exact ⟨by rw [← hnn]; rfl, by dsimp only; rw [hlen, show i + (j - i) = j by omega]; exact hr⟩))
       ·
        intro hc86
        try simp only [dn] at hc86
        refine vc_code_skip (vq_block (vq_then (vc_keep [(0, _), (2, _), (3, _), (4, _)] ⟨rfl, rfl, rfl, rfl, trivial⟩ (vc_seq ?_))))
        refine vc_draw Tryz.mixed [(0, true), (1, true), (2, true), (3, true), (4, true), (5, true), (6, true), (7, true), (8, true), (9, true), (10, true), (11, true), (12, true), (13, true), (14, false)] (fun w => St _ _ [.blk b (scn s j fa fr)] w) (by exact st.drop (by repeat (first | exact sl0 | apply sl1 | apply sl2))) (by kernel_rfl) (by repeat (first | exact okQ_body | refine okQ_then ?_ | refine okQ_block ?_)) rfl (by kernel_rfl) ?_
        intro w cd; replace st := st.call0 cd; clear cd
        have hS : St _ _ [.blk b (scn s j fa fr)] w := (by exact st.drop (by repeat (first | exact sl0 | apply sl1 | apply sl2)))
        refine vp_take rfl rfl rfl hS (fun w st => y_mv rfl) ?_
        refine vp_take rfl rfl rfl hS (fun w st => y_nck rfl) ?_
        refine vp_take rfl rfl rfl hS (fun w st => y_fa0 rfl underlying79 rfl rfl sizeOf9 rfl) ?_
        refine vp_take rfl rfl rfl hS (fun w st => (by exact y_ld st 0 rfl isAgg9 rfl rfl)) ?_
        iterate 2 refine vp_take rfl rfl rfl hS (fun w st => y_mv rfl) ?_
        refine vp_take rfl rfl rfl hS (fun w st => y_nck rfl) ?_
        refine vp_take rfl rfl rfl hS (fun w st => (by exact y_faz (k := 1) rfl underlying79 rfl rfl sizeOf3 rfl)) ?_
        refine vp_take rfl rfl rfl hS (fun w st => (by exact y_ld st 0 rfl isAgg3 rfl rfl)) ?_
        refine vp_take rfl rfl rfl hS (fun w st => y_sls (i := _) (j := _) rfl rfl rfl underlying9 rfl rfl (by omega) (by omega)) ?_
        refine vp_take rfl rfl rfl hS (fun w st => y_mv rfl) ?_
        refine vp_take rfl rfl rfl hS (fun w st => y_cvi rfl underlying2 underlying105 (IntWalk.i64_in _ ⟨by omega, by omega⟩ : _ = (n : Int))) ?_
        refine vp_take rfl rfl rfl hS (fun w st => y_mv rfl) ?_
        refine vp_take rfl rfl rfl hS (fun w st => y_bld (.agg #[_, _, _, _]) [(0, _), (1, _), (2, _), (3, _)] rfl (fun w => by simp [Instr.build, go_sem] <;> repeat' constructor)) ?_
        refine vp_do rfl (e_sts (vs := [_, _, _, _]) st 0 rfl rfl rfl rfl rfl sizeOf82 rfl rfl (by first | (right; assumption) | (left; simp)) ?_)
        intro w st; dsimp only [setNth, wr] at st
        refine vp_next (by exact st.drop (by repeat (first | exact sl0 | apply sl1 | apply sl2))) ?_; intro hS
        refine vp_end (vq_then (vc_keep [(2, _)] ⟨rfl, trivial⟩ (vc_ret ?_)))
        refine vq_ret1 st (.inl rfl) results58 (by exact .cell 0 rfl rfl isAgg82 sizeOf82) ?_
        refine ⟨_, rfl, ?_⟩
        have hlen : (List.take (j - i) (List.drop i s)).length = j - i := by simp; omega
        have hpos : i < j := by
         rcases Nat.lt_or_ge i j with h | h
         ·
          exact h
         ·
          exfalso
          rw [show j - i = 0 by omega, List.take_zero, drop_cons hi, List.takeWhile_cons, if_pos hd] at hT
          cases hT
        refine ⟨st.chg, ?_⟩
        rw [tokAt_num hi hc hd, hT, hlen, show i + (j - i) = j by omega]
        have hr := st.res (i := 1) rfl
        first
        | (rw [if_pos (.inl ⟨by omega, u8_eq48 (by assumption)⟩)]; exact ⟨rfl, _, hr⟩)
        | (rw [if_pos (.inr (of_decide_eq_true (by rw [← hgr]; assumption)))]; exact ⟨rfl, _, hr⟩)
        | (have hNB : ¬((1 < j - i ∧ s.getD i 0 = 48) ∨ 9223372036854775807 < numVal (List.take (j - i) (List.drop i s))) := by
             rintro (⟨h1, h2⟩ | h2)
             · have h3 : ((s.getD i 0).toNat : Int) = 48 := by rw [h2]; rfl
               omega
             · omega
           rw [if_neg hNB]
           first
           | (rw [if_pos ⟨by omega, by assumption⟩]; exact ⟨rfl, _, hr⟩)
           | (rw [if_neg (by rintro ⟨h1, h2⟩; first | omega | simp_all)]
              exact ⟨by rw [← hnn]; rfl, by dsimp only; rw [hlen, show i + (j - i) = j by omega]; exact hr⟩))
      ·
       intro hg97
       try simp only [dn] at hg97
       iterate 9 refine vp_skip rfl rfl rfl hS ?_
       refine vp_do rfl (e_skip rfl rfl (vp_next hS (fun hS => ?_)))
       refine vp_take rfl rfl rfl hS (fun w st => y_pickf rfl rfl) ?_
       refine vp_take rfl rfl rfl hS (fun w st => y_as rfl) ?_
       refine vp_end (vq_then (vc_keep [(0, _), (2, _), (3, _), (4, _), (86, _)] ⟨rfl, rfl, rfl, rfl, rfl, trivial⟩ ?_))
       refine vc_iff rfl ?_
       refine vc_code_skip (vq_block (vq_then (vc_keep [(0, _), (2, _), (3, _), (4, _)] ⟨rfl, rfl, rfl, rfl, trivial⟩ (vc_seq ?_))))
       refine vc_draw Tryz.mixed [(0, true), (1, true), (2, true), (3, true), (4, true), (5, true), (6, true), (7, true), (8, true), (9, true), (10, true), (11, true), (12, true), (13, true), (14, false)] (fun w => St _ _ [.blk b (scn s j fa fr)] w) (by exact st.drop (by repeat (first | exact sl0 | apply sl1 | apply sl2))) (by kernel_rfl) (by repeat (first | exact okQ_body | refine okQ_then ?_ | refine okQ_block ?_)) rfl (by kernel_rfl) ?_
       intro w cd; replace st := st.call0 cd; clear cd
       have hS : St _ _ [.blk b (scn s j fa fr)] w := (by exact st.drop (by repeat (first | exact sl0 | apply sl1 | apply sl2)))
       refine vp_take rfl rfl rfl hS (fun w st => y_mv rfl) ?_
       refine vp_take rfl rfl rfl hS (fun w st => y_nck rfl) ?_
       refine vp_take rfl rfl rfl hS (fun w st => y_fa0 rfl underlying79 rfl rfl sizeOf9 rfl) ?_
       refine vp_take rfl rfl rfl hS (fun w st => (by exact y_ld st 0 rfl isAgg9 rfl rfl)) ?_
       iterate 2 refine vp_take rfl rfl rfl hS (fun w st => y_mv rfl) ?_
       refine vp_take rfl rfl rfl hS (fun w st => y_nck rfl) ?_
       refine vp_take rfl rfl rfl hS (fun w st => (by exact y_faz (k := 1) rfl underlying79 rfl rfl sizeOf3 rfl)) ?_
       refine vp_take rfl rfl rfl hS (fun w st => (by exact y_ld st 0 rfl isAgg3 rfl rfl)) ?_
       refine vp_take rfl rfl rfl hS (fun w st => y_sls (i := _) (j := _) rfl rfl rfl underlying9 rfl rfl (by omega) (by omega)) ?_
       refine vp_take rfl rfl rfl hS (fun w st => y_mv rfl) ?_
       refine vp_take rfl rfl rfl hS (fun w st => y_cvi rfl underlying2 underlying105 (IntWalk.i64_in _ ⟨by omega, by omega⟩ : _ = (n : Int))) ?_
       refine vp_take rfl rfl rfl hS (fun w st => y_mv rfl) ?_
       refine vp_take rfl rfl rfl hS (fun w st => y_bld (.agg #[_, _, _, _]) [(0, _), (1, _), (2, _), (3, _)] rfl (fun w => by simp [Instr.build, go_sem] <;> repeat' constructor)) ?_
       refine vp_do rfl (e_sts (vs := [_, _, _, _]) st 0 rfl rfl rfl rfl rfl sizeOf82 rfl rfl (by first | (right; assumption) | (left; simp)) ?_)
       intro w st; dsimp only [setNth, wr] at st
       refine vp_next (by exact st.drop (by repeat (first | exact sl0 | apply sl1 | apply sl2))) ?_; intro hS
       refine vp_end (vq_then (vc_keep [(2, _)] ⟨rfl, trivial⟩ (vc_ret ?_)))
       refine vq_ret1 st (.inl rfl) results58 (by exact .cell 0 rfl rfl isAgg82 sizeOf82) ?_
       refine ⟨_, rfl, ?_⟩
       have hlen : (List.take (j - i) (List.drop i s)).length = j - i := by simp; omega
       have hpos : i < j := by
        rcases Nat.lt_or_ge i j with h | h
        ·
         exact h
        ·
         exfalso
         rw [show j - i = 0 by omega, List.take_zero, drop_cons hi, List.takeWhile_cons, if_pos hd] at hT
         cases hT
       refine ⟨st.chg, ?_⟩
       rw [tokAt_num hi hc hd, hT, hlen, show i + (j - i) = j by omega]
       have hr := st.res (i := 1) rfl
       first
       | (rw [if_pos (.inl ⟨by omega, u8_eq48 (by assumption)⟩)]; exact ⟨rfl, _, hr⟩)
       | (rw [if_pos (.inr (of_decide_eq_true (by rw [← hgr]; assumption)))]; exact ⟨rfl, _, hr⟩)
       | (have hNB : ¬((1 < j - i ∧ s.getD i 0 = 48) ∨ 9223372036854775807 < numVal (List.take (j - i) (List.drop i s))) := by
            rintro (⟨h1, h2⟩ | h2)
            · have h3 : ((s.getD i 0).toNat : Int) = 48 := by rw [h2]; rfl
              omega
            · omega
          rw [if_neg hNB]
          first
          | (rw [if_pos ⟨by omega, by assumption⟩]; exact ⟨rfl, _, hr⟩)
          | (rw [if_neg (by rintro ⟨h1, h2⟩; first | omega | simp_all)]
             exact ⟨by rw [← hnn]; rfl, by dsimp only; rw [hlen, show i + (j - i) = j by omega]; exact hr⟩))
   ·
    intro hg71
    try simp only [dn] at hg71
    iterate 7 refine vc_e (e_skip rfl rfl ?_)
    refine vc_y rfl rfl (y_pickf rfl rfl) ?_
    iterate 2 refine vc_y rfl rfl (y_mv rfl) ?_
    refine vc_y rfl rfl (y_pickf rfl rfl) ?_
    refine vc_y rfl rfl (y_as rfl) ?_
    refine vc_end (vq_then (vc_keep [(0, _), (2, _), (3, _), (4, _), (63, _)] ⟨rfl, rfl, rfl, rfl, rfl, trivial⟩ ?_))
    refine vc_ifs rfl ?_ ?_
    ·
     intro hc63
     try simp only [dn] at hc63
     refine vc_seq (vc_region ?_)
     iterate 2 refine vc_y rfl rfl (y_mv rfl) ?_
     refine vc_e (e_call [_, _, _] rfl rfl call70 rfl (wrong_any b s _ _ _ _ _ _ (st.res (i := 1) rfl)) ?_)
     rintro _ w ⟨rfl, cw, hw⟩
     replace st := st.turn (i := 1) (r' := .blk b _) rfl rfl rfl cw (.inl (by simp)) hw
     dsimp only [setNth] at st
     refine vc_e (e_sts (vs := [_, _, _, _]) st 0 rfl rfl rfl rfl rfl sizeOf82 rfl rfl (by first | (right; assumption) | (left; simp)) ?_)
     intro w st; dsimp only [setNth, wr] at st
     refine vc_end (vq_then (vc_keep [(2, _)] ⟨rfl, trivial⟩ (vc_ret (vq_block_ret (vq_then_ret ?_)))))
     refine vq_ret1 st (.inl rfl) results58 (by exact .cell 0 rfl rfl isAgg82 sizeOf82) ?_
     refine ⟨_, rfl, ?_⟩
     have hlen : (List.take (j - i) (List.drop i s)).length = j - i := by simp; omega
     have hpos : i < j := by
      rcases Nat.lt_or_ge i j with h | h
      ·
       exact h
      ·
       exfalso
       rw [show j - i = 0 by omega, List.take_zero, drop_cons hi, List.takeWhile_cons, if_pos hd] at hT
       cases hT
     refine ⟨st.chg, ?_⟩
     rw [tokAt_num hi hc hd, hT, hlen, show i + (j - i) = j by omega]
     have hr := st.res (i := 1) rfl
     first
     | (rw [if_pos (.inl ⟨by omega, u8_eq48 (by assumption)⟩)]; exact ⟨rfl, _, hr⟩)
     | (rw [if_pos (.inr (of_decide_eq_true (by rw [← hgr]; assumption)))]; exact ⟨rfl, _, hr⟩)
     | (have hNB : ¬((1 < j - i ∧ s.getD i 0 = 48) ∨ 9223372036854775807 < numVal (List.take (j - i) (List.drop i s))) := by
          rintro (⟨h1, h2⟩ | h2)
          · have h3 : ((s.getD i 0).toNat : Int) = 48 := by rw [h2]; rfl
            omega
          · omega
        rw [if_neg hNB]
        first
        | (rw [if_pos ⟨by omega, by assumption⟩]; exact ⟨rfl, _, hr⟩)
        | (rw [if_neg (by rintro ⟨h1, h2⟩; first | omega | simp_all)]
           exact ⟨by rw [← hnn]; rfl, by dsimp only; rw [hlen, show i + (j - i) = j by omega]; exact hr⟩))
    ·
     intro hc63
     try simp only [dn] at hc63
     have hnn := hn hc63
     have hM : n ≤ 9223372036854775807 := by rw [hc63] at hgr; have := of_decide_eq_false hgr.symm; omega
     refine vc_seq ?_
     refine vc_draw Tryz.mixed [(0, true), (1, true), (2, true), (3, true), (4, true), (5, true), (6, true), (7, true), (8, true), (9, true), (10, true), (11, true), (12, true), (13, true), (14, true), (15, true), (16, true), (17, true), (18, true), (19, true), (20, false), (21, true), (22, true)] (fun w => St _ _ _ w) st (by kernel_rfl) (by repeat (first | exact okQ_body | refine okQ_then ?_ | refine okQ_block ?_)) rfl (by kernel_rfl) ?_
     intro w cd; replace st := st.call0 cd; clear cd
     have hS := st
     refine vp_take rfl rfl rfl hS (fun w st => y_mv rfl) ?_
     refine vp_take rfl rfl rfl hS (fun w st => y_nck rfl) ?_
     refine vp_take rfl rfl rfl hS (fun w st => (by exact y_faz (k := 1) rfl underlying79 rfl rfl sizeOf3 rfl)) ?_
     refine vp_take rfl rfl rfl hS (fun w st => (by exact y_ld st 1 rfl isAgg3 rfl rfl)) ?_
     refine vp_take rfl rfl rfl hS (fun w st => y_mv rfl) ?_
     refine vp_take rfl rfl rfl hS (fun w st => y_nck rfl) ?_
     refine vp_take rfl rfl rfl hS (fun w st => y_fa0 rfl underlying79 rfl rfl sizeOf9 rfl) ?_
     refine vp_take rfl rfl rfl hS (fun w st => (by exact y_ld st 1 rfl isAgg9 rfl rfl)) ?_
     refine vp_take rfl rfl rfl hS (fun w st => y_lens rfl underlying9) ?_
     refine vp_take rfl rfl rfl hS (fun w st => y_lss rfl rfl) ?_
     refine vp_part rfl rfl rfl hS rfl ?_ ?_
     ·
      intro hg97
      try simp only [dn] at hg97
      refine vp_take rfl rfl rfl hS (fun w st => y_mv rfl) ?_
      refine vp_take rfl rfl rfl hS (fun w st => y_nck rfl) ?_
      refine vp_take rfl rfl rfl hS (fun w st => y_fa0 rfl underlying79 rfl rfl sizeOf9 rfl) ?_
      refine vp_take rfl rfl rfl hS (fun w st => (by exact y_ld st 1 rfl isAgg9 rfl rfl)) ?_
      refine vp_take rfl rfl rfl hS (fun w st => y_mv rfl) ?_
      refine vp_take rfl rfl rfl hS (fun w st => y_nck rfl) ?_
      refine vp_take rfl rfl rfl hS (fun w st => (by exact y_faz (k := 1) rfl underlying79 rfl rfl sizeOf3 rfl)) ?_
      refine vp_take rfl rfl rfl hS (fun w st => (by exact y_ld st 1 rfl isAgg3 rfl rfl)) ?_
      refine vp_take rfl rfl rfl hS (fun w st => y_ixs (k := _) rfl rfl underlying9 rfl (by omega)) ?_
      refine vp_do rfl (e_call [_] rfl rfl call59 rfl (letter_any _ _) ?_)
      rintro _ _ ⟨rfl, rfl⟩
      refine vp_next (by exact st) ?_; intro hS
      refine vp_take rfl rfl rfl hS (fun w st => y_pickt rfl rfl) ?_
      refine vp_take rfl rfl rfl hS (fun w st => y_as rfl) ?_
      refine vp_end (vq_then (vc_keep [(0, _), (2, _), (3, _), (4, _), (86, _)] ⟨rfl, rfl, rfl, rfl, rfl, trivial⟩ ?_))
      refine vc_ifs rfl ?_ ?_
      ·
       intro hc86
       try simp only [dn] at hc86
       refine vc_seq (vc_region ?_)
       iterate 2 refine vc_y rfl rfl (y_mv rfl) ?_
       refine vc_y rfl rfl (y_nck rfl) ?_
       refine vc_y rfl rfl ((by exact y_faz (k := 1) rfl underlying79 rfl rfl sizeOf3 rfl)) ?_
       refine vc_y rfl rfl ((by exact y_ld st 1 rfl isAgg3 rfl rfl)) ?_
       refine vc_e (e_call [_, _, _] rfl rfl call70 rfl (wrong_any b s _ _ _ _ _ _ (st.res (i := 1) rfl)) ?_)
       rintro _ w ⟨rfl, cw, hw⟩
       replace st := st.turn (i := 1) (r' := .blk b _) rfl rfl rfl cw (.inl (by simp)) hw
       dsimp only [setNth] at st
       refine vc_e (e_sts (vs := [_, _, _, _]) st 0 rfl rfl rfl rfl rfl sizeOf82 rfl rfl (by first | (right; assumption) | (left; simp)) ?_)
       intro w st; dsimp only [setNth, wr] at st
       refine vc_end (vq_then (vc_keep [(2, _)] ⟨rfl, trivial⟩ (vc_ret (vq_block_ret (vq_then_ret ?_)))))
       refine vq_ret1 st (.inl rfl) results58 (by exact .cell 0 rfl rfl isAgg82 sizeOf82) ?_
       refine ⟨_, rfl, ?_⟩
       have hlen : (List.take (j - i) (List.drop i s)).length = j - i := by simp; omega
       have hpos : i < j := by
        rcases Nat.lt_or_ge i j with h | h
        ·
         exact h
        ·
         exfalso
         rw [show j - i = 0 by omega, List.take_zero, drop_cons hi, List.takeWhile_cons, if_pos hd] at hT
         cases hT
       refine ⟨st.chg, ?_⟩
       rw [tokAt_num hi hc hd, hT, hlen, show i + (j - i) = j by omega]
       have hr := st.res (i := 1) rfl
       first
       | (rw [if_pos (.inl ⟨by omega, u8_eq48 (by assumption)⟩)]; exact ⟨rfl, _, hr⟩)
       | (rw [if_pos (.inr (of_decide_eq_true (by rw [← hgr]; assumption)))]; exact ⟨rfl, _, hr⟩)
       | (have hNB : ¬((1 < j - i ∧ s.getD i 0 = 48) ∨ 9223372036854775807 < numVal (List.take (j - i) (List.drop i s))) := by
            rintro (⟨h1, h2⟩ | h2)
            · have h3 : ((s.getD i 0).toNat : Int) = 48 := by rw [h2]; rfl
              omega
            · omega
          rw [if_neg hNB]
          first
          | (rw [if_pos ⟨by omega, by assumption⟩]; exact ⟨rfl, _, hr⟩)
          | (rw [if_neg (by rintro ⟨h1, h2⟩; first | omega | simp_all)]
             exact ⟨by rw [← hnn]; rfl, by dsimp only; rw [hlen, show i + (j - i) = j by omega]; exact hr⟩))
      ·
       intro hc86
       try simp only [dn] at hc86
       refine vc_code_skip (vq_block (vq_then (vc_keep [(0, _), (2, _), (3, _), (4, _)] ⟨rfl, rfl, rfl, rfl, trivial⟩ (vc_seq ?_))))
       refine vc_draw Tryz.mixed [(0, true), (1, true), (2, true), (3, true), (4, true), (5, true), (6, true), (7, true), (8, true), (9, true), (10, true), (11, true), (12, true), (13, true), (14, false)] (fun w => St _ _ [.blk b (scn s j fa fr)] w) (by exact st.drop (by repeat (first | exact sl0 | apply sl1 | apply sl2))) (by kernel_rfl) (by repeat (first | exact okQ_body | refine okQ_then ?_ | refine okQ_block ?_)) rfl (by kernel_rfl) ?_
       intro w cd; replace st := st.call0 cd; clear cd
       have hS : St _ _ [.blk b (scn s j fa fr)] w := (by exact st.drop (by repeat (first | exact sl0 | apply sl1 | apply sl2)))
       refine vp_take rfl rfl rfl hS (fun w st => y_mv rfl) ?_
       refine vp_take rfl rfl rfl hS (fun w st => y_nck rfl) ?_
       refine vp_take rfl rfl rfl hS (fun w st => y_fa0 rfl underlying79 rfl rfl sizeOf9 rfl) ?_
       refine vp_take rfl rfl rfl hS (fun w st => (by exact y_ld st 0 rfl isAgg9 rfl rfl)) ?_
       iterate 2 refine vp_take rfl rfl rfl hS (fun w st => y_mv rfl) ?_
       refine vp_take rfl rfl rfl hS (fun w st => y_nck rfl) ?_
       refine vp_take rfl rfl rfl hS (fun w st => (by exact y_faz (k := 1) rfl underlying79 rfl rfl sizeOf3 rfl)) ?_
       refine vp_take rfl rfl rfl hS (fun w st => (by exact y_ld st 0 rfl isAgg3 rfl rfl)) ?_
       refine vp_take rfl rfl rfl hS (fun w st => y_sls (i := _) (j := _) rfl rfl rfl underlying9 rfl rfl (by omega) (by omega)) ?_
       refine vp_take rfl rfl rfl hS (fun w st => y_mv rfl) ?_
       refine vp_take rfl rfl rfl hS (fun w st => y_cvi rfl underlying2 underlying105 (IntWalk.i64_in _ ⟨by omega, by omega⟩ : _ = (n : Int))) ?_
       refine vp_take rfl rfl rfl hS (fun w st => y_mv rfl) ?_
       refine vp_take rfl rfl rfl hS (fun w st => y_bld (.agg #[_, _, _, _]) [(0, _), (1, _), (2, _), (3, _)] rfl (fun w => by simp [Instr.build, go_sem] <;> repeat' constructor)) ?_
       refine vp_do rfl (e_sts (vs := [_, _, _, _]) st 0 rfl rfl rfl rfl rfl sizeOf82 rfl rfl (by first | (right; assumption) | (left; simp)) ?_)
       intro w st; dsimp only [setNth, wr] at st
       refine vp_next (by exact st.drop (by repeat (first | exact sl0 | apply sl1 | apply sl2))) ?_; intro hS
       refine vp_end (vq_then (vc_keep [(2, _)] ⟨rfl, trivial⟩ (vc_ret ?_)))
       refine vq_ret1 st (.inl rfl) results58 (by exact .cell 0 rfl rfl isAgg82 sizeOf82) ?_
       refine ⟨_, rfl, ?_⟩
       have hlen : (List.take (j - i) (List.drop i s)).length = j - i := by simp; omega
       have hpos : i < j := by
        rcases Nat.lt_or_ge i j with h | h
        ·
         exact h
        ·
         exfalso
         rw [show j - i = 0 by omega, List.take_zero, drop_cons hi, List.takeWhile_cons, if_pos hd] at hT
         cases hT
       refine ⟨st.chg, ?_⟩
       rw [tokAt_num hi hc hd, hT, hlen, show i + (j - i) = j by omega]
       have hr := st.res (i := 1) rfl
       first
       | (rw [if_pos (.inl ⟨by omega, u8_eq48 (by assumption)⟩)]; exact ⟨rfl, _, hr⟩)
       | (rw [if_pos (.inr (of_decide_eq_true (by rw [← hgr]; assumption)))]; exact ⟨rfl, _, hr⟩)
       | (have hNB : ¬((1 < j - i ∧ s.getD i 0 = 48) ∨ 9223372036854775807 < numVal (List.take (j - i) (List.drop i s))) := by
            rintro (⟨h1, h2⟩ | h2)
            · have h3 : ((s.getD i 0).toNat : Int) = 48 := by rw [h2]; rfl
              omega
            · omega
          rw [if_neg hNB]
          first
          | (rw [if_pos ⟨by omega, by assumption⟩]; exact ⟨rfl, _, hr⟩)
          | (rw [if_neg (by rintro ⟨h1, h2⟩; first | omega | simp_all)]
             exact ⟨by rw [← hnn]; rfl, by dsimp only; rw [hlen, show i + (j - i) = j by omega]; exact hr⟩))
     ·
      intro hg97
      try simp only [dn] at hg97
      iterate 9 refine vp_skip rfl rfl rfl hS ?_
      refine vp_do rfl (e_skip rfl rfl (vp_next hS (fun hS => ?_)))
      refine vp_take rfl rfl rfl hS (fun w st => y_pickf rfl rfl) ?_
      refine vp_take rfl rfl rfl hS (fun w st => y_as rfl) ?_
      refine vp_end (vq_then (vc_keep [(0, _), (2, _), (3, _), (4, _), (86, _)] ⟨rfl, rfl, rfl, rfl, rfl, trivial⟩ ?_))
      refine vc_iff rfl ?_
      refine vc_code_skip (vq_block (vq_then (vc_keep [(0, _), (2, _), (3, _), (4, _)] ⟨rfl, rfl, rfl, rfl, trivial⟩ (vc_seq ?_))))
      refine vc_draw Tryz.mixed [(0, true), (1, true), (2, true), (3, true), (4, true), (5, true), (6, true), (7, true), (8, true), (9, true), (10, true), (11, true), (12, true), (13, true), (14, false)] (fun w => St _ _ [.blk b (scn s j fa fr)] w) (by exact st.drop (by repeat (first | exact sl0 | apply sl1 | apply sl2))) (by kernel_rfl) (by repeat (first | exact okQ_body | refine okQ_then ?_ | refine okQ_block ?_)) rfl (by kernel_rfl) ?_
      intro w cd; replace st := st.call0 cd; clear cd
      have hS : St _ _ [.blk b (scn s j fa fr)] w := (by exact st.drop (by repeat (first | exact sl0 | apply sl1 | apply sl2)))
      refine vp_take rfl rfl rfl hS (fun w st => y_mv rfl) ?_
      refine vp_take rfl rfl rfl hS (fun w st => y_nck rfl) ?_
      refine vp_take rfl rfl rfl hS (fun w st => y_fa0 rfl underlying79 rfl rfl sizeOf9 rfl) ?_
      refine vp_take rfl rfl rfl hS (fun w st => (by exact y_ld st 0 rfl isAgg9 rfl rfl)) ?_
      iterate 2 refine vp_take rfl rfl rfl hS (fun w st => y_mv rfl) ?_
      refine vp_take rfl rfl rfl hS (fun w st => y_nck rfl) ?_
      refine vp_take rfl rfl rfl hS (fun w st => (by exact y_faz (k := 1) rfl underlying79 rfl rfl sizeOf3 rfl)) ?_
      refine vp_take rfl rfl rfl hS (fun w st => (by exact y_ld st 0 rfl isAgg3 rfl rfl)) ?_
      refine vp_take rfl rfl rfl hS (fun w st => y_sls (i := _) (j := _) rfl rfl rfl underlying9 rfl rfl (by omega) (by omega)) ?_
      refine vp_take rfl rfl rfl hS (fun w st => y_mv rfl) ?_
      refine vp_take rfl rfl rfl hS (fun w st => y_cvi rfl underlying2 underlying105 (IntWalk.i64_in _ ⟨by omega, by omega⟩ : _ = (n : Int))) ?_
      refine vp_take rfl rfl rfl hS (fun w st => y_mv rfl) ?_
      refine vp_take rfl rfl rfl hS (fun w st => y_bld (.agg #[_, _, _, _]) [(0, _), (1, _), (2, _), (3, _)] rfl (fun w => by simp [Instr.build, go_sem] <;> repeat' constructor)) ?_
      refine vp_do rfl (e_sts (vs := [_, _, _, _]) st 0 rfl rfl rfl rfl rfl sizeOf82 rfl rfl (by first | (right; assumption) | (left; simp)) ?_)
      intro w st; dsimp only [setNth, wr] at st
      refine vp_next (by exact st.drop (by repeat (first | exact sl0 | apply sl1 | apply sl2))) ?_; intro hS
      refine vp_end (vq_then (vc_keep [(2, _)] ⟨rfl, trivial⟩ (vc_ret ?_)))
      refine vq_ret1 st (.inl rfl) results58 (by exact .cell 0 rfl rfl isAgg82 sizeOf82) ?_
      refine ⟨_, rfl, ?_⟩
      have hlen : (List.take (j - i) (List.drop i s)).length = j - i := by simp; omega
      have hpos : i < j := by
       rcases Nat.lt_or_ge i j with h | h
       ·
        exact h
       ·
        exfalso
        rw [show j - i = 0 by omega, List.take_zero, drop_cons hi, List.takeWhile_cons, if_pos hd] at hT
        cases hT
      refine ⟨st.chg, ?_⟩
      rw [tokAt_num hi hc hd, hT, hlen, show i + (j - i) = j by omega]
      have hr := st.res (i := 1) rfl
      first
      | (rw [if_pos (.inl ⟨by omega, u8_eq48 (by assumption)⟩)]; exact ⟨rfl, _, hr⟩)
      | (rw [if_pos (.inr (of_decide_eq_true (by rw [← hgr]; assumption)))]; exact ⟨rfl, _, hr⟩)
      | (have hNB : ¬((1 < j - i ∧ s.getD i 0 = 48) ∨ 9223372036854775807 < numVal (List.take (j - i) (List.drop i s))) := by
           rintro (⟨h1, h2⟩ | h2)
           · have h3 : ((s.getD i 0).toNat : Int) = 48 := by rw [h2]; rfl
             omega
           · omega
         rw [if_neg hNB]
         first
         | (rw [if_pos ⟨by omega, by assumption⟩]; exact ⟨rfl, _, hr⟩)
         | (rw [if_neg (by rintro ⟨h1, h2⟩; first | omega | simp_all)]
            exact ⟨by rw [← hnn]; rfl, by dsimp only; rw [hlen, show i + (j - i) = j by omega]; exact hr⟩))
 ·
  intro hg21
  try simp only [dn] at hg21
  have hT := tw_end (fun h => absurd h (by omega)) he
  iterate 9 refine vp_skip rfl rfl rfl hS ?_
  refine vp_do rfl (e_skip rfl rfl (vp_next hS (fun hS => ?_)))
  refine vp_take rfl rfl rfl hS (fun w st => y_pickf rfl rfl) ?_
  refine vp_end (vq_then (vc_keep [(0, _), (2, _), (3, _), (4, _), (5, _), (32, _)] ⟨rfl, rfl, rfl, rfl, rfl, rfl, trivial⟩ ?_))
  refine vc_iff rfl ?_
  refine vc_exit (vq_then_exit (vq_then_exit (vq_block_exit (vq_then (vc_keep [(0, _), (2, _), (3, _), (4, _), (5, _)] ⟨rfl, rfl, rfl, rfl, rfl, trivial⟩ (vc_seq (vc_block (vc_seq (vc_region ?_)))))))))
  refine vc_y rfl rfl (y_mv rfl) ?_
  refine vc_y rfl rfl (y_nck rfl) ?_
  refine vc_y rfl rfl ((by exact y_faz (k := 1) rfl underlying79 rfl rfl sizeOf3 rfl)) ?_
  refine vc_y rfl rfl ((by exact y_ld st 1 rfl isAgg3 rfl rfl)) ?_
  refine vc_y rfl rfl (y_mv rfl) ?_
  refine vc_y rfl rfl (y_add rfl rfl rfl (by omega) (by omega)) ?_
  refine vc_y rfl rfl (y_gtr rfl rfl) ?_
  refine vc_e (e_mvb rfl rfl rfl ?_ ?_)
  ·
   intro hg71
   try simp only [dn] at hg71
   refine vc_y rfl rfl (y_mv rfl) ?_
   refine vc_y rfl rfl (y_nck rfl) ?_
   refine vc_y rfl rfl (y_fa0 rfl underlying79 rfl rfl sizeOf9 rfl) ?_
   refine vc_y rfl rfl ((by exact y_ld st 1 rfl isAgg9 rfl rfl)) ?_
   refine vc_y rfl rfl (y_mv rfl) ?_
   refine vc_y rfl rfl (y_ixs (k := _) rfl rfl underlying9 rfl (by omega)) ?_
   refine vc_y rfl rfl (y_eqi rfl rfl) ?_
   refine vc_y rfl rfl (y_pickt rfl rfl) ?_
   refine vc_e (e_mvb rfl rfl rfl ?_ ?_)
   ·
    intro hg80
    try simp only [dn] at hg80
    refine vc_e (e_skip rfl rfl ?_)
    refine vc_y rfl rfl (y_pickt rfl rfl) ?_
    refine vc_y rfl rfl (y_as rfl) ?_
    refine vc_end (vq_then (vc_keep [(0, _), (2, _), (3, _), (4, _), (63, _)] ⟨rfl, rfl, rfl, rfl, rfl, trivial⟩ ?_))
    refine vc_ift rfl ?_
    refine vc_seq (vc_region ?_)
    iterate 2 refine vc_y rfl rfl (y_mv rfl) ?_
    refine vc_e (e_call [_, _, _] rfl rfl call70 rfl (wrong_any b s _ _ _ _ _ _ (st.res (i := 1) rfl)) ?_)
    rintro _ w ⟨rfl, cw, hw⟩
    replace st := st.turn (i := 1) (r' := .blk b _) rfl rfl rfl cw (.inl (by simp)) hw
    dsimp only [setNth] at st
    refine vc_e (e_sts (vs := [_, _, _, _]) st 0 rfl rfl rfl rfl rfl sizeOf82 rfl rfl (by first | (right; assumption) | (left; simp)) ?_)
    intro w st; dsimp only [setNth, wr] at st
    refine vc_end (vq_then (vc_keep [(2, _)] ⟨rfl, trivial⟩ (vc_ret (vq_block_ret (vq_then_ret ?_)))))
    refine vq_ret1 st (.inl rfl) results58 (by exact .cell 0 rfl rfl isAgg82 sizeOf82) ?_
    refine ⟨_, rfl, ?_⟩
    have hlen : (List.take (j - i) (List.drop i s)).length = j - i := by simp; omega
    have hpos : i < j := by
     rcases Nat.lt_or_ge i j with h | h
     ·
      exact h
     ·
      exfalso
      rw [show j - i = 0 by omega, List.take_zero, drop_cons hi, List.takeWhile_cons, if_pos hd] at hT
      cases hT
    refine ⟨st.chg, ?_⟩
    rw [tokAt_num hi hc hd, hT, hlen, show i + (j - i) = j by omega]
    have hr := st.res (i := 1) rfl
    first
    | (rw [if_pos (.inl ⟨by omega, u8_eq48 (by assumption)⟩)]; exact ⟨rfl, _, hr⟩)
    | (rw [if_pos (.inr (of_decide_eq_true (by rw [← hgr]; assumption)))]; exact ⟨rfl, _, hr⟩)
    | (have hNB : ¬((1 < j - i ∧ s.getD i 0 = 48) ∨ 9223372036854775807 < numVal (List.take (j - i) (List.drop i s))) := by
         rintro (⟨h1, h2⟩ | h2)
         · have h3 : ((s.getD i 0).toNat : Int) = 48 := by rw [h2]; rfl
           omega
         · omega
       rw [if_neg hNB]
       first
       | (rw [if_pos ⟨by omega, by assumption⟩]; exact ⟨rfl, _, hr⟩)
       | (rw [if_neg (by rintro ⟨h1, h2⟩; first | omega | simp_all)]
          exact ⟨by rw [← hnn]; rfl, by dsimp only; rw [hlen, show i + (j - i) = j by omega]; exact hr⟩))
   ·
    intro hg80
    try simp only [dn] at hg80
    refine vc_y rfl rfl (y_mv rfl) ?_
    refine vc_y rfl rfl (y_pickf rfl rfl) ?_
    refine vc_y rfl rfl (y_as rfl) ?_
    refine vc_end (vq_then (vc_keep [(0, _), (2, _), (3, _), (4, _), (63, _)] ⟨rfl, rfl, rfl, rfl, rfl, trivial⟩ ?_))
    refine vc_ifs rfl ?_ ?_
    ·
     intro hc63
     try simp only [dn] at hc63
     refine vc_seq (vc_region ?_)
     iterate 2 refine vc_y rfl rfl (y_mv rfl) ?_
     refine vc_e (e_call [_, _, _] rfl rfl call70 rfl (wrong_any b s _ _ _ _ _ _ (st.res (i := 1) rfl)) ?_)
     rintro _ w ⟨rfl, cw, hw⟩
     replace st := st.turn (i := 1) (r' := .blk b _) rfl rfl rfl cw (.inl (by simp)) hw
     dsimp only [setNth] at st
     refine vc_e (e_sts (vs := [_, _, _, _]) st 0 rfl rfl rfl rfl rfl sizeOf82 rfl rfl (by first | (right; assumption) | (left; simp)) ?_)
     intro w st; dsimp only [setNth, wr] at st
     refine vc_end (vq_then (vc_keep [(2, _)] ⟨rfl, trivial⟩ (vc_ret (vq_block_ret (vq_then_ret ?_)))))
     refine vq_ret1 st (.inl rfl) results58 (by exact .cell 0 rfl rfl isAgg82 sizeOf82) ?_
     refine ⟨_, rfl, ?_⟩
     have hlen : (List.take (j - i) (List.drop i s)).length = j - i := by simp; omega
     have hpos : i < j := by
      rcases Nat.lt_or_ge i j with h | h
      ·
       exact h
      ·
       exfalso
       rw [show j - i = 0 by omega, List.take_zero, drop_cons hi, List.takeWhile_cons, if_pos hd] at hT
       cases hT
     refine ⟨st.chg, ?_⟩
     rw [tokAt_num hi hc hd, hT, hlen, show i + (j - i) = j by omega]
     have hr := st.res (i := 1) rfl
     first
     | (rw [if_pos (.inl ⟨by omega, u8_eq48 (by assumption)⟩)]; exact ⟨rfl, _, hr⟩)
     | (rw [if_pos (.inr (of_decide_eq_true (by rw [← hgr]; assumption)))]; exact ⟨rfl, _, hr⟩)
     | (have hNB : ¬((1 < j - i ∧ s.getD i 0 = 48) ∨ 9223372036854775807 < numVal (List.take (j - i) (List.drop i s))) := by
          rintro (⟨h1, h2⟩ | h2)
          · have h3 : ((s.getD i 0).toNat : Int) = 48 := by rw [h2]; rfl
            omega
          · omega
        rw [if_neg hNB]
        first
        | (rw [if_pos ⟨by omega, by assumption⟩]; exact ⟨rfl, _, hr⟩)
        | (rw [if_neg (by rintro ⟨h1, h2⟩; first | omega | simp_all)]
           exact ⟨by rw [← hnn]; rfl, by dsimp only; rw [hlen, show i + (j - i) = j by omega]; exact hr⟩))
    ·
     intro hc63
     try simp only [dn] at hc63
     have hnn := hn hc63
     have hM : n ≤ 9223372036854775807 := by rw [hc63] at hgr; have := of_decide_eq_false hgr.symm; omega
     refine vc_seq ?_
     refine vc_draw Tryz.mixed [(0, true), (1, true), (2, true), (3, true), (4, true), (5, true), (6, true), (7, true), (8, true), (9, true), (10, true), (11, true), (12, true), (13, true), (14, true), (15, true), (16, true), (17, true), (18, true), (19, true), (20, false), (21, true), (22, true)] (fun w => St _ _ _ w) st (by kernel_rfl) (by repeat (first | exact okQ_body | refine okQ_then ?_ | refine okQ_block ?_)) rfl (by kernel_rfl) ?_
     intro w cd; replace st := st.call0 cd; clear cd
     have hS := st
     refine vp_take rfl rfl rfl hS (fun w st => y_mv rfl) ?_
     refine vp_take rfl rfl rfl hS (fun w st => y_nck rfl) ?_
     refine vp_take rfl rfl rfl hS (fun w st => (by exact y_faz (k := 1) rfl underlying79 rfl rfl sizeOf3 rfl)) ?_
     refine vp_take rfl rfl rfl hS (fun w st => (by exact y_ld st 1 rfl isAgg3 rfl rfl)) ?_
     refine vp_take rfl rfl rfl hS (fun w st => y_mv rfl) ?_
     refine vp_take rfl rfl rfl hS (fun w st => y_nck rfl) ?_
     refine vp_take rfl rfl rfl hS (fun w st => y_fa0 rfl underlying79 rfl rfl sizeOf9 rfl) ?_
     refine vp_take rfl rfl rfl hS (fun w st => (by exact y_ld st 1 rfl isAgg9 rfl rfl)) ?_
     refine vp_take rfl rfl rfl hS (fun w st => y_lens rfl underlying9) ?_
     refine vp_take rfl rfl rfl hS (fun w st => y_lss rfl rfl) ?_
     refine vp_part rfl rfl rfl hS rfl ?_ ?_
     ·
      intro hg97
      try simp only [dn] at hg97
      refine vp_take rfl rfl rfl hS (fun w st => y_mv rfl) ?_
      refine vp_take rfl rfl rfl hS (fun w st => y_nck rfl) ?_
      refine vp_take rfl rfl rfl hS (fun w st => y_fa0 rfl underlying79 rfl rfl sizeOf9 rfl) ?_
      refine vp_take rfl rfl rfl hS (fun w st => (by exact y_ld st 1 rfl isAgg9 rfl rfl)) ?_
      refine vp_take rfl rfl rfl hS (fun w st => y_mv rfl) ?_
      refine vp_take rfl rfl rfl hS (fun w st => y_nck rfl) ?_
      refine vp_take rfl rfl rfl hS (fun w st => (by exact y_faz (k := 1) rfl underlying79 rfl rfl sizeOf3 rfl)) ?_
      refine vp_take rfl rfl rfl hS (fun w st => (by exact y_ld st 1 rfl isAgg3 rfl rfl)) ?_
      refine vp_take rfl rfl rfl hS (fun w st => y_ixs (k := _) rfl rfl underlying9 rfl (by omega)) ?_
      refine vp_do rfl (e_call [_] rfl rfl call59 rfl (letter_any _ _) ?_)
      rintro _ _ ⟨rfl, rfl⟩
      refine vp_next (by exact st) ?_; intro hS
      refine vp_take rfl rfl rfl hS (fun w st => y_pickt rfl rfl) ?_
      refine vp_take rfl rfl rfl hS (fun w st => y_as rfl) ?_
      refine vp_end (vq_then (vc_keep [(0, _), (2, _), (3, _), (4, _), (86, _)] ⟨rfl, rfl, rfl, rfl, rfl, trivial⟩ ?_))
      refine vc_ifs rfl ?_ ?_
      ·
       intro hc86
       try simp only [dn] at hc86
       refine vc_seq (vc_region ?_)
       iterate 2 refine vc_y rfl rfl (y_mv rfl) ?_
       refine vc_y rfl rfl (y_nck rfl) ?_
       refine vc_y rfl rfl ((by exact y_faz (k := 1) rfl underlying79 rfl rfl sizeOf3 rfl)) ?_
       refine vc_y rfl rfl ((by exact y_ld st 1 rfl isAgg3 rfl rfl)) ?_
       refine vc_e (e_call [_, _, _] rfl rfl call70 rfl (wrong_any b s _ _ _ _ _ _ (st.res (i := 1) rfl)) ?_)
       rintro _ w ⟨rfl, cw, hw⟩
       replace st := st.turn (i := 1) (r' := .blk b _) rfl rfl rfl cw (.inl (by simp)) hw
       dsimp only [setNth] at st
       refine vc_e (e_sts (vs := [_, _, _, _]) st 0 rfl rfl rfl rfl rfl sizeOf82 rfl rfl (by first | (right; assumption) | (left; simp)) ?_)
       intro w st; dsimp only [setNth, wr] at st
       refine vc_end (vq_then (vc_keep [(2, _)] ⟨rfl, trivial⟩ (vc_ret (vq_block_ret (vq_then_ret ?_)))))
       refine vq_ret1 st (.inl rfl) results58 (by exact .cell 0 rfl rfl isAgg82 sizeOf82) ?_
       refine ⟨_, rfl, ?_⟩
       have hlen : (List.take (j - i) (List.drop i s)).length = j - i := by simp; omega
       have hpos : i < j := by
        rcases Nat.lt_or_ge i j with h | h
        ·
         exact h
        ·
         exfalso
         rw [show j - i = 0 by omega, List.take_zero, drop_cons hi, List.takeWhile_cons, if_pos hd] at hT
         cases hT
       refine ⟨st.chg, ?_⟩
       rw [tokAt_num hi hc hd, hT, hlen, show i + (j - i) = j by omega]
       have hr := st.res (i := 1) rfl
       first
       | (rw [if_pos (.inl ⟨by omega, u8_eq48 (by assumption)⟩)]; exact ⟨rfl, _, hr⟩)
       | (rw [if_pos (.inr (of_decide_eq_true (by rw [← hgr]; assumption)))]; exact ⟨rfl, _, hr⟩)
       | (have hNB : ¬((1 < j - i ∧ s.getD i 0 = 48) ∨ 9223372036854775807 < numVal (List.take (j - i) (List.drop i s))) := by
            rintro (⟨h1, h2⟩ | h2)
            · have h3 : ((s.getD i 0).toNat : Int) = 48 := by rw [h2]; rfl
              omega
            · omega
          rw [if_neg hNB]
          first
          | (rw [if_pos ⟨by omega, by assumption⟩]; exact ⟨rfl, _, hr⟩)
          | (rw [if_neg (by rintro ⟨h1, h2⟩; first | omega | simp_all)]
             exact ⟨by rw [← hnn]; rfl, by dsimp only; rw [hlen, show i + (j - i) = j by omega]; exact hr⟩))
      ·
       intro hc86
       try simp only [dn] at hc86
       refine vc_code_skip (vq_block (vq_then (vc_keep [(0, _), (2, _), (3, _), (4, _)] ⟨rfl, rfl, rfl, rfl, trivial⟩ (vc_seq ?_))))
       refine vc_draw Tryz.mixed [(0, true), (1, true), (2, true), (3, true), (4, true), (5, true), (6, true), (7, true), (8, true), (9, true), (10, true), (11, true), (12, true), (13, true), (14, false)] (fun w => St _ _ [.blk b (scn s j fa fr)] w) (by exact st.drop (by repeat (first | exact sl0 | apply sl1 | apply sl2))) (by kernel_rfl) (by repeat (first | exact okQ_body | refine okQ_then ?_ | refine okQ_block ?_)) rfl (by kernel_rfl) ?_
       intro w cd; replace st := st.call0 cd; clear cd
       have hS : St _ _ [.blk b (scn s j fa fr)] w := (by exact st.drop (by repeat (first | exact sl0 | apply sl1 | apply sl2)))
       refine vp_take rfl rfl rfl hS (fun w st => y_mv rfl) ?_
       refine vp_take rfl rfl rfl hS (fun w st => y_nck rfl) ?_
       refine vp_take rfl rfl rfl hS (fun w st => y_fa0 rfl underlying79 rfl rfl sizeOf9 rfl) ?_
       refine vp_take rfl rfl rfl hS (fun w st => (by exact y_ld st 0 rfl isAgg9 rfl rfl)) ?_
       iterate 2 refine vp_take rfl rfl rfl hS (fun w st => y_mv rfl) ?_
       refine vp_take rfl rfl rfl hS (fun w st => y_nck rfl) ?_
       refine vp_take rfl rfl rfl hS (fun w st => (by exact y_faz (k := 1) rfl underlying79 rfl rfl sizeOf3 rfl)) ?_
       refine vp_take rfl rfl rfl hS (fun w st => (by exact y_ld st 0 rfl isAgg3 rfl rfl)) ?_
       refine vp_take rfl rfl rfl hS (fun w st => y_sls (i := _) (j := _) rfl rfl rfl underlying9 rfl rfl (by omega) (by omega)) ?_
       refine vp_take rfl rfl rfl hS (fun w st => y_mv rfl) ?_
       refine vp_take rfl rfl rfl hS (fun w st => y_cvi rfl underlying2 underlying105 (IntWalk.i64_in _ ⟨by omega, by omega⟩ : _ = (n : Int))) ?_
       refine vp_take rfl rfl rfl hS (fun w st => y_mv rfl) ?_
       refine vp_take rfl rfl rfl hS (fun w st => y_bld (.agg #[_, _, _, _]) [(0, _), (1, _), (2, _), (3, _)] rfl (fun w => by simp [Instr.build, go_sem] <;> repeat' constructor)) ?_
       refine vp_do rfl (e_sts (vs := [_, _, _, _]) st 0 rfl rfl rfl rfl rfl sizeOf82 rfl rfl (by first | (right; assumption) | (left; simp)) ?_)
       intro w st; dsimp only [setNth, wr] at st
       refine vp_next (by exact st.drop (by repeat (first | exact sl0 | apply sl1 | apply sl2))) ?_; intro hS
       refine vp_end (vq_then (vc_keep [(2, _)] ⟨rfl, trivial⟩ (vc_ret ?_)))
       refine vq_ret1 st (.inl rfl) results58 (by exact .cell 0 rfl rfl isAgg82 sizeOf82) ?_
       refine ⟨_, rfl, ?_⟩
       have hlen : (List.take (j - i) (List.drop i s)).length = j - i := by simp; omega
       have hpos : i < j := by
        rcases Nat.lt_or_ge i j with h | h
        ·
         exact h
        ·
         exfalso
         rw [show j - i = 0 by omega, List.take_zero, drop_cons hi, List.takeWhile_cons, if_pos hd] at hT
         cases hT
       refine ⟨st.chg, ?_⟩
       rw [tokAt_num hi hc hd, hT, hlen, show i + (j - i) = j by omega]
       have hr := st.res (i := 1) rfl
       first
       | (rw [if_pos (.inl ⟨by omega, u8_eq48 (by assumption)⟩)]; exact ⟨rfl, _, hr⟩)
       | (rw [if_pos (.inr (of_decide_eq_true (by rw [← hgr]; assumption)))]; exact ⟨rfl, _, hr⟩)
       | (have hNB : ¬((1 < j - i ∧ s.getD i 0 = 48) ∨ 9223372036854775807 < numVal (List.take (j - i) (List.drop i s))) := by
            rintro (⟨h1, h2⟩ | h2)
            · have h3 : ((s.getD i 0).toNat : Int) = 48 := by rw [h2]; rfl
              omega
            · omega
          rw [if_neg hNB]
          first
          | (rw [if_pos ⟨by omega, by assumption⟩]; exact ⟨rfl, _, hr⟩)
          | (rw [if_neg (by rintro ⟨h1, h2⟩; first | omega | simp_all)]
             exact ⟨by rw [← hnn]; rfl, by dsimp only; rw [hlen, show i + (j - i) = j by omega]; exact hr⟩))
     ·
      intro hg97
      try simp only [dn] at hg97
      iterate 9 refine vp_skip rfl rfl rfl hS ?_
      refine vp_do rfl (e_skip rfl rfl (vp_next hS (fun hS => ?_)))
      refine vp_take rfl rfl rfl hS (fun w st => y_pickf rfl rfl) ?_
      refine vp_take rfl rfl rfl hS (fun w st => y_as rfl) ?_
      refine vp_end (vq_then (vc_keep [(0, _), (2, _), (3, _), (4, _), (86, _)] ⟨rfl, rfl, rfl, rfl, rfl, trivial⟩ ?_))
      refine vc_iff rfl ?_
      refine vc_code_skip (vq_block (vq_then (vc_keep [(0, _), (2, _), (3, _), (4, _)] ⟨rfl, rfl, rfl, rfl, trivial⟩ (vc_seq ?_))))
      refine vc_draw Tryz.mixed [(0, true), (1, true), (2, true), (3, true), (4, true), (5, true), (6, true), (7, true), (8, true), (9, true), (10, true), (11, true), (12, true), (13, true), (14, false)] (fun w => St _ _ [.blk b (scn s j fa fr)] w) (by exact st.drop (by repeat (first | exact sl0 | apply sl1 | apply sl2))) (by kernel_rfl) (by repeat (first | exact okQ_body | refine okQ_then ?_ | refine okQ_block ?_)) rfl (by kernel_rfl) ?_
      intro w cd; replace st := st.call0 cd; clear cd
      have hS : St _ _ [.blk b (scn s j fa fr)] w := (by exact st.drop (by repeat (first | exact sl0 | apply sl1 | apply sl2)))
      refine vp_take rfl rfl rfl hS (fun w st => y_mv rfl) ?_
      refine vp_take rfl rfl rfl hS (fun w st => y_nck rfl) ?_
      refine vp_take rfl rfl rfl hS (fun w st => y_fa0 rfl underlying79 rfl rfl sizeOf9 rfl) ?_
      refine vp_take rfl rfl rfl hS (fun w st => (by exact y_ld st 0 rfl isAgg9 rfl rfl)) ?_
      iterate 2 refine vp_take rfl rfl rfl hS (fun w st => y_mv rfl) ?_
      refine vp_take rfl rfl rfl hS (fun w st => y_nck rfl) ?_
      refine vp_take rfl rfl rfl hS (fun w st => (by exact y_faz (k := 1) rfl underlying79 rfl rfl sizeOf3 rfl)) ?_
      refine vp_take rfl rfl rfl hS (fun w st => (by exact y_ld st 0 rfl isAgg3 rfl rfl)) ?_
      refine vp_take rfl rfl rfl hS (fun w st => y_sls (i := _) (j := _) rfl rfl rfl underlying9 rfl rfl (by omega) (by omega)) ?_
      refine vp_take rfl rfl rfl hS (fun w st => y_mv rfl) ?_
      refine vp_take rfl rfl rfl hS (fun w st => y_cvi rfl underlying2 underlying105 (IntWalk.i64_in _ ⟨by omega, by omega⟩ : _ = (n : Int))) ?_
      refine vp_take rfl rfl rfl hS (fun w st => y_mv rfl) ?_
      refine vp_take rfl rfl rfl hS (fun w st => y_bld (.agg #[_, _, _, _]) [(0, _), (1, _), (2, _), (3, _)] rfl (fun w => by simp [Instr.build, go_sem] <;> repeat' constructor)) ?_
      refine vp_do rfl (e_sts (vs := [_, _, _, _]) st 0 rfl rfl rfl rfl rfl sizeOf82 rfl rfl (by first | (right; assumption) | (left; simp)) ?_)
      intro w st; dsimp only [setNth, wr] at st
      refine vp_next (by exact st.drop (by repeat (first | exact sl0 | apply sl1 | apply sl2))) ?_; intro hS
      refine vp_end (vq_then (vc_keep [(2, _)] ⟨rfl, trivial⟩ (vc_ret ?_)))
      refine vq_ret1 st (.inl rfl) results58 (by exact .cell 0 rfl rfl isAgg82 sizeOf82) ?_
      refine ⟨_, rfl, ?_⟩
      have hlen : (List.take (j - i) (List.drop i s)).length = j - i := by simp; omega
      have hpos : i < j := by
       rcases Nat.lt_or_ge i j with h | h
       ·
        exact h
       ·
        exfalso
        rw [show j - i = 0 by omega, List.take_zero, drop_cons hi, List.takeWhile_cons, if_pos hd] at hT
        cases hT
      refine ⟨st.chg, ?_⟩
      rw [tokAt_num hi hc hd, hT, hlen, show i + (j - i) = j by omega]
      have hr := st.res (i := 1) rfl
      first
      | (rw [if_pos (.inl ⟨by omega, u8_eq48 (by assumption)⟩)]; exact ⟨rfl, _, hr⟩)
      | (rw [if_pos (.inr (of_decide_eq_true (by rw [← hgr]; assumption)))]; exact ⟨rfl, _, hr⟩)
      | (have hNB : ¬((1 < j - i ∧ s.getD i 0 = 48) ∨ 9223372036854775807 < numVal (List.take (j - i) (List.drop i s))) := by
           rintro (⟨h1, h2⟩ | h2)
           · have h3 : ((s.getD i 0).toNat : Int) = 48 := by rw [h2]; rfl
             omega
           · omega
         rw [if_neg hNB]
         first
         | (rw [if_pos ⟨by omega, by assumption⟩]; exact ⟨rfl, _, hr⟩)
         | (rw [if_neg (by rintro ⟨h1, h2⟩; first | omega | simp_all)]
            exact ⟨by rw [← hnn]; rfl, by dsimp only; rw [hlen, show i + (j - i) = j by omega]; exact hr⟩))
  ·
   intro hg71
   try simp only [dn] at hg71
   iterate 7 refine vc_e (e_skip rfl rfl ?_)
   refine vc_y rfl rfl (y_pickf rfl rfl) ?_
   iterate 2 refine vc_y rfl rfl (y_mv rfl) ?_
   refine vc_y rfl rfl (y_pickf rfl rfl) ?_
   refine vc_y rfl rfl (y_as rfl) ?_
   refine vc_end (vq_then (vc_keep [(0, _), (2, _), (3, _), (4, _), (63, _)] ⟨rfl, rfl, rfl, rfl, rfl, trivial⟩ ?_))
   refine vc_ifs rfl ?_ ?_
   ·
    intro hc63
    try simp only [dn] at hc63
    refine vc_seq (vc_region ?_)
    iterate 2 refine vc_y rfl rfl (y_mv rfl) ?_
    refine vc_e (e_call [_, _, _] rfl rfl call70 rfl (wrong_any b s _ _ _ _ _ _ (st.res (i := 1) rfl)) ?_)
    rintro _ w ⟨rfl, cw, hw⟩
    replace st := st.turn (i := 1) (r' := .blk b _) rfl rfl rfl cw (.inl (by simp)) hw
    dsimp only [setNth] at st
    refine vc_e (e_sts (vs := [_, _, _, _]) st 0 rfl rfl rfl rfl rfl sizeOf82 rfl rfl (by first | (right; assumption) | (left; simp)) ?_)
    intro w st; dsimp only [setNth, wr] at st
    refine vc_end (vq_then (vc_keep [(2, _)] ⟨rfl, trivial⟩ (vc_ret (vq_block_ret (vq_then_ret ?_)))))
    refine vq_ret1 st (.inl rfl) results58 (by exact .cell 0 rfl rfl isAgg82 sizeOf82) ?_
    refine ⟨_, rfl, ?_⟩
    have hlen : (List.take (j - i) (List.drop i s)).length = j - i := by simp; omega
    have hpos : i < j := by
     rcases Nat.lt_or_ge i j with h | h
     ·
      exact h
     ·
      exfalso
      rw [show j - i = 0 by omega, List.take_zero, drop_cons hi, List.takeWhile_cons, if_pos hd] at hT
      cases hT
    refine ⟨st.chg, ?_⟩
    rw [tokAt_num hi hc hd, hT, hlen, show i + (j - i) = j by omega]
    have hr := st.res (i := 1) rfl
    first
    | (rw [if_pos (.inl ⟨by omega, u8_eq48 (by assumption)⟩)]; exact ⟨rfl, _, hr⟩)
    | (rw [if_pos (.inr (of_decide_eq_true (by rw [← hgr]; assumption)))]; exact ⟨rfl, _, hr⟩)
    | (have hNB : ¬((1 < j - i ∧ s.getD i 0 = 48) ∨ 9223372036854775807 < numVal (List.take (j - i) (List.drop i s))) := by
         rintro (⟨h1, h2⟩ | h2)
         · have h3 : ((s.getD i 0).toNat : Int) = 48 := by rw [h2]; rfl
           omega
         · omega
       rw [if_neg hNB]
       first
       | (rw [if_pos ⟨by omega, by assumption⟩]; exact ⟨rfl, _, hr⟩)
       | (rw [if_neg (by rintro ⟨h1, h2⟩; first | omega | simp_all)]
          exact ⟨by rw [← hnn]; rfl, by dsimp only; rw [hlen, show i + (j - i) = j by omega]; exact hr⟩))
   ·
    intro hc63
    try simp only [dn] at hc63
    have hnn := hn hc63
    have hM : n ≤ 9223372036854775807 := by rw [hc63] at hgr; have := of_decide_eq_false hgr.symm; omega
    refine vc_seq ?_
    refine vc_draw Tryz.mixed [(0, true), (1, true), (2, true), (3, true), (4, true), (5, true), (6, true), (7, true), (8, true), (9, true), (10, true), (11, true), (12, true), (13, true), (14, true), (15, true), (16, true), (17, true), (18, true), (19, true), (20, false), (21, true), (22, true)] (fun w => St _ _ _ w) st (by kernel_rfl) (by repeat (first | exact okQ_body | refine okQ_then ?_ | refine okQ_block ?_)) rfl (by kernel_rfl) ?_
    intro w cd; replace st := st.call0 cd; clear cd
    have hS := st
    refine vp_take rfl rfl rfl hS (fun w st => y_mv rfl) ?_
    refine vp_take rfl rfl rfl hS (fun w st => y_nck rfl) ?_
    refine vp_take rfl rfl rfl hS (fun w st => (by exact y_faz (k := 1) rfl underlying79 rfl rfl sizeOf3 rfl)) ?_
    refine vp_take rfl rfl rfl hS (fun w st => (by exact y_ld st 1 rfl isAgg3 rfl rfl)) ?_
    refine vp_take rfl rfl rfl hS (fun w st => y_mv rfl) ?_
    refine vp_take rfl rfl rfl hS (fun w st => y_nck rfl) ?_
    refine vp_take rfl rfl rfl hS (fun w st => y_fa0 rfl underlying79 rfl rfl sizeOf9 rfl) ?_
    refine vp_take rfl rfl rfl hS (fun w st => (by exact y_ld st 1 rfl isAgg9 rfl rfl)) ?_
    refine vp_take rfl rfl rfl hS (fun w st => y_lens rfl underlying9) ?_
    refine vp_take rfl rfl rfl hS (fun w st => y_lss rfl rfl) ?_
    refine vp_part rfl rfl rfl hS rfl ?_ ?_
    ·
     intro hg97
     try simp only [dn] at hg97
     refine vp_take rfl rfl rfl hS (fun w st => y_mv rfl) ?_
     refine vp_take rfl rfl rfl hS (fun w st => y_nck rfl) ?_
     refine vp_take rfl rfl rfl hS (fun w st => y_fa0 rfl underlying79 rfl rfl sizeOf9 rfl) ?_
     refine vp_take rfl rfl rfl hS (fun w st => (by exact y_ld st 1 rfl isAgg9 rfl rfl)) ?_
     refine vp_take rfl rfl rfl hS (fun w st => y_mv rfl) ?_
     refine vp_take rfl rfl rfl hS (fun w st => y_nck rfl) ?_
     refine vp_take rfl rfl rfl hS (fun w st => (by exact y_faz (k := 1) rfl underlying79 rfl rfl sizeOf3 rfl)) ?_
     refine vp_take rfl rfl rfl hS (fun w st => (by exact y_ld st 1 rfl isAgg3 rfl rfl)) ?_
     refine vp_take rfl rfl rfl hS (fun w st => y_ixs (k := _) rfl rfl underlying9 rfl (by omega)) ?_
     refine vp_do rfl (e_call [_] rfl rfl call59 rfl (letter_any _ _) ?_)
     rintro _ _ ⟨rfl, rfl⟩
     refine vp_next (by exact st) ?_; intro hS
     refine vp_take rfl rfl rfl hS (fun w st => y_pickt rfl rfl) ?_
     refine vp_take rfl rfl rfl hS (fun w st => y_as rfl) ?_
     refine vp_end (vq_then (vc_keep [(0, _), (2, _), (3, _), (4, _), (86, _)] ⟨rfl, rfl, rfl, rfl, rfl, trivial⟩ ?_))
     refine vc_ifs rfl ?_ ?_
     ·
      intro hc86
      try simp only [dn] at hc86
      refine vc_seq (vc_region ?_)
      iterate 2 refine vc_y rfl rfl (y_mv rfl) ?_
      refine vc_y rfl rfl (y_nck rfl) ?_
      refine vc_y rfl rfl ((by exact y_faz (k := 1) rfl underlying79 rfl rfl sizeOf3 rfl)) ?_
      refine vc_y rfl rfl ((by exact y_ld st 1 rfl isAgg3 rfl rfl)) ?_
      refine vc_e (e_call [_, _, _] rfl rfl call70 rfl (wrong_any b s _ _ _ _ _ _ (st.res (i := 1) rfl)) ?_)
      rintro _ w ⟨rfl, cw, hw⟩
      replace st := st.turn (i := 1) (r' := .blk b _) rfl rfl rfl cw (.inl (by simp)) hw
      dsimp only [setNth] at st
      refine vc_e (e_sts (vs := [_, _, _, _]) st 0 rfl rfl rfl rfl rfl sizeOf82 rfl rfl (by first | (right; assumption) | (left; simp)) ?_)
      intro w st; dsimp only [setNth, wr] at st
      refine vc_end (vq_then (vc_keep [(2, _)] ⟨rfl, trivial⟩ (vc_ret (vq_block_ret (vq_then_ret ?_)))))
      refine vq_ret1 st (.inl rfl) results58 (by exact .cell 0 rfl rfl isAgg82 sizeOf82) ?_
      refine ⟨_, rfl, ?_⟩
      have hlen : (List.take (j - i) (List.drop i s)).length = j - i := by simp; omega
      have hpos : i < j := by
       rcases Nat.lt_or_ge i j with h | h
       ·
        exact h
       ·
        exfalso
        rw [show j - i = 0 by omega, List.take_zero, drop_cons hi, List.takeWhile_cons, if_pos hd] at hT
        cases hT
      refine ⟨st.chg, ?_⟩
      rw [tokAt_num hi hc hd, hT, hlen, show i + (j - i) = j by omega]
      have hr := st.res (i := 1) rfl
      first
      | (rw [if_pos (.inl ⟨by omega, u8_eq48 (by assumption)⟩)]; exact ⟨rfl, _, hr⟩)
      | (rw [if_pos (.inr (of_decide_eq_true (by rw [← hgr]; assumption)))]; exact ⟨rfl, _, hr⟩)
      | (have hNB : ¬((1 < j - i ∧ s.getD i 0 = 48) ∨ 9223372036854775807 < numVal (List.take (j - i) (List.drop i s))) := by
           rintro (⟨h1, h2⟩ | h2)
           · have h3 : ((s.getD i 0).toNat : Int) = 48 := by rw [h2]; rfl
             omega
           · omega
         rw [if_neg hNB]
         first
         | (rw [if_pos ⟨by omega, by assumption⟩]; exact ⟨rfl, _, hr⟩)
         | (rw [if_neg (by rintro ⟨h1, h2⟩; first | omega | simp_all)]
            exact ⟨by rw [← hnn]; rfl, by dsimp only; rw [hlen, show i + (j - i) = j by omega]; exact hr⟩))
     ·
      intro hc86
      try simp only [dn] at hc86
      refine vc_code_skip (vq_block (vq_then (vc_keep [(0, _), (2, _), (3, _), (4, _)] ⟨rfl, rfl, rfl, rfl, trivial⟩ (vc_seq ?_))))
      refine vc_draw Tryz.mixed [(0, true), (1, true), (2, true), (3, true), (4, true), (5, true), (6, true), (7, true), (8, true), (9, true), (10, true), (11, true), (12, true), (13, true), (14, false)] (fun w => St _ _ [.blk b (scn s j fa fr)] w) (by exact st.drop (by repeat (first | exact sl0 | apply sl1 | apply sl2))) (by kernel_rfl) (by repeat (first | exact okQ_body | refine okQ_then ?_ | refine okQ_block ?_)) rfl (by kernel_rfl) ?_
      intro w cd; replace st := st.call0 cd; clear cd
      have hS : St _ _ [.blk b (scn s j fa fr)] w := (by exact st.drop (by repeat (first | exact sl0 | apply sl1 | apply sl2)))
      refine vp_take rfl rfl rfl hS (fun w st => y_mv rfl) ?_
      refine vp_take rfl rfl rfl hS (fun w st => y_nck rfl) ?_
      refine vp_take rfl rfl rfl hS (fun w st => y_fa0 rfl underlying79 rfl rfl sizeOf9 rfl) ?_
      refine vp_take rfl rfl rfl hS (fun w st => (by exact y_ld st 0 rfl isAgg9 rfl rfl)) ?_
      iterate 2 refine vp_take rfl rfl rfl hS (fun w st => y_mv rfl) ?_
      refine vp_take rfl rfl rfl hS (fun w st => y_nck rfl) ?_
      refine vp_take rfl rfl rfl hS (fun w st => (by exact y_faz (k := 1) rfl underlying79 rfl rfl sizeOf3 rfl)) ?_
      refine vp_take rfl rfl rfl hS (fun w st => (by exact y_ld st 0 rfl isAgg3 rfl rfl)) ?_
      refine vp_take rfl rfl rfl hS (fun w st => y_sls (i := _) (j := _) rfl rfl rfl underlying9 rfl rfl (by omega) (by omega)) ?_
      refine vp_take rfl rfl rfl hS (fun w st => y_mv rfl) ?_
      refine vp_take rfl rfl rfl hS (fun w st => y_cvi rfl underlying2 underlying105 (IntWalk.i64_in _ ⟨by omega, by omega⟩ : _ = (n : Int))) ?_
      refine vp_take rfl rfl rfl hS (fun w st => y_mv rfl) ?_
      refine vp_take rfl rfl rfl hS (fun w st => y_bld (.agg #[_, _, _, _]) [(0, _), (1, _), (2, _), (3, _)] rfl (fun w => by simp [Instr.build, go_sem] <;> repeat' constructor)) ?_
      refine vp_do rfl (e_sts (vs := [_, _, _, _]) st 0 rfl rfl rfl rfl rfl sizeOf82 rfl rfl (by first | (right; assumption) | (left; simp)) ?_)
      intro w st; dsimp only [setNth, wr] at st
      refine vp_next (by exact st.drop (by repeat (first | exact sl0 | apply sl1 | apply sl2))) ?_; intro hS
      refine vp_end (vq_then (vc_keep [(2, _)] ⟨rfl, trivial⟩ (vc_ret ?_)))
      refine vq_ret1 st (.inl rfl) results58 (by exact .cell 0 rfl rfl isAgg82 sizeOf82) ?_
      refine ⟨_, rfl, ?_⟩
      have hlen : (List.take (j - i) (List.drop i s)).length = j - i := by simp; omega
      have hpos : i < j := by
       rcases Nat.lt_or_ge i j with h | h
       ·
        exact h
       ·
        exfalso
        rw [show j - i = 0 by omega, List.take_zero, drop_cons hi, List.takeWhile_cons, if_pos hd] at hT
        cases hT
      refine ⟨st.chg, ?_⟩
      rw [tokAt_num hi hc hd, hT, hlen, show i + (j - i) = j by omega]
      have hr := st.res (i := 1) rfl
      first
      | (rw [if_pos (.inl ⟨by omega, u8_eq48 (by assumption)⟩)]; exact ⟨rfl, _, hr⟩)
      | (rw [if_pos (.inr (of_decide_eq_true (by rw [← hgr]; assumption)))]; exact ⟨rfl, _, hr⟩)
      | (have hNB : ¬((1 < j - i ∧ s.getD i 0 = 48) ∨ 9223372036854775807 < numVal (List.take (j - i) (List.drop i s))) := by
           rintro (⟨h1, h2⟩ | h2)
           · have h3 : ((s.getD i 0).toNat : Int) = 48 := by rw [h2]; rfl
             omega
           · omega
         rw [if_neg hNB]
         first
         | (rw [if_pos ⟨by omega, by assumption⟩]; exact ⟨rfl, _, hr⟩)
         | (rw [if_neg (by rintro ⟨h1, h2⟩; first | omega | simp_all)]
            exact ⟨by rw [← hnn]; rfl, by dsimp only; rw [hlen, show i + (j - i) = j by omega]; exact hr⟩))
    ·
     intro hg97
     try simp only [dn] at hg97
     iterate 9 refine vp_skip rfl rfl rfl hS ?_
     refine vp_do rfl (e_skip rfl rfl (vp_next hS (fun hS => ?_)))
     refine vp_take rfl rfl rfl hS (fun w st => y_pickf rfl rfl) ?_
     refine vp_take rfl rfl rfl hS (fun w st => y_as rfl) ?_
     refine vp_end (vq_then (vc_keep [(0, _), (2, _), (3, _), (4, _), (86, _)] ⟨rfl, rfl, rfl, rfl, rfl, trivial⟩ ?_))
     refine vc_iff rfl ?_
     refine vc_code_skip (vq_block (vq_then (vc_keep [(0, _), (2, _), (3, _), (4, _)] ⟨rfl, rfl, rfl, rfl, trivial⟩ (vc_seq ?_))))
     refine vc_draw Tryz.mixed [(0, true), (1, true), (2, true), (3, true), (4, true), (5, true), (6, true), (7, true), (8, true), (9, true), (10, true), (11, true), (12, true), (13, true), (14, false)] (fun w => St _ _ [.blk b (scn s j fa fr)] w) (by exact st.drop (by repeat (first | exact sl0 | apply sl1 | apply sl2))) (by kernel_rfl) (by repeat (first | exact okQ_body | refine okQ_then ?_ | refine okQ_block ?_)) rfl (by kernel_rfl) ?_
     intro w cd; replace st := st.call0 cd; clear cd
     have hS : St _ _ [.blk b (scn s j fa fr)] w := (by exact st.drop (by repeat (first | exact sl0 | apply sl1 | apply sl2)))
     refine vp_take rfl rfl rfl hS (fun w st => y_mv rfl) ?_
     refine vp_take rfl rfl rfl hS (fun w st => y_nck rfl) ?_
     refine vp_take rfl rfl rfl hS (fun w st => y_fa0 rfl underlying79 rfl rfl sizeOf9 rfl) ?_
     refine vp_take rfl rfl rfl hS (fun w st => (by exact y_ld st 0 rfl isAgg9 rfl rfl)) ?_
     iterate 2 refine vp_take rfl rfl rfl hS (fun w st => y_mv rfl) ?_
     refine vp_take rfl rfl rfl hS (fun w st => y_nck rfl) ?_
     refine vp_take rfl rfl rfl hS (fun w st => (by exact y_faz (k := 1) rfl underlying79 rfl rfl sizeOf3 rfl)) ?_
     refine vp_take rfl rfl rfl hS (fun w st => (by exact y_ld st 0 rfl isAgg3 rfl rfl)) ?_
     refine vp_take rfl rfl rfl hS (fun w st => y_sls (i := _) (j := _) rfl rfl rfl underlying9 rfl rfl (by omega) (by omega)) ?_
     refine vp_take rfl rfl rfl hS (fun w st => y_mv rfl) ?_
     refine vp_take rfl rfl rfl hS (fun w st => y_cvi rfl underlying2 underlying105 (IntWalk.i64_in _ ⟨by omega, by omega⟩ : _ = (n : Int))) ?_
     refine vp_take rfl rfl rfl hS (fun w st => y_mv rfl) ?_
     refine vp_take rfl rfl rfl hS (fun w st => y_bld (.agg #[_, _, _, _]) [(0, _), (1, _), (2, _), (3, _)] rfl (fun w => by simp [Instr.build, go_sem] <;> repeat' constructor)) ?_
     refine vp_do rfl (e_sts (vs := [_, _, _, _]) st 0 rfl rfl rfl rfl rfl sizeOf82 rfl rfl (by first | (right; assumption) | (left; simp)) ?_)
     intro w st; dsimp only [setNth, wr] at st
     refine vp_next (by exact st.drop (by repeat (first | exact sl0 | apply sl1 | apply sl2))) ?_; intro hS
     refine vp_end (vq_then (vc_keep [(2, _)] ⟨rfl, trivial⟩ (vc_ret ?_)))
     refine vq_ret1 st (.inl rfl) results58 (by exact .cell 0 rfl rfl isAgg82 sizeOf82) ?_
     refine ⟨_, rfl, ?_⟩
     have hlen : (List.take (j - i) (List.drop i s)).length = j - i := by simp; omega
     have hpos : i < j := by
      rcases Nat.lt_or_ge i j with h | h
      ·
       exact h
      ·
       exfalso
       rw [show j - i = 0 by omega, List.take_zero, drop_cons hi, List.takeWhile_cons, if_pos hd] at hT
       cases hT
     refine ⟨st.chg, ?_⟩
     rw [tokAt_num hi hc hd, hT, hlen, show i + (j - i) = j by omega]
     have hr := st.res (i := 1) rfl
     first
     | (rw [if_pos (.inl ⟨by omega, u8_eq48 (by assumption)⟩)]; exact ⟨rfl, _, hr⟩)
     | (rw [if_pos (.inr (of_decide_eq_true (by rw [← hgr]; assumption)))]; exact ⟨rfl, _, hr⟩)
     | (have hNB : ¬((1 < j - i ∧ s.getD i 0 = 48) ∨ 9223372036854775807 < numVal (List.take (j - i) (List.drop i s))) := by
          rintro (⟨h1, h2⟩ | h2)
          · have h3 : ((s.getD i 0).toNat : Int) = 48 := by rw [h2]; rfl
            omega
          · omega
        rw [if_neg hNB]
        first
        | (rw [if_pos ⟨by omega, by assumption⟩]; exact ⟨rfl, _, hr⟩)
        | (rw [if_neg (by rintro ⟨h1, h2⟩; first | omega | simp_all)]
           exact ⟨by rw [← hnn]; rfl, by dsimp only; rw [hlen, show i + (j - i) = j by omega]; exact hr⟩))

end Go.Proofs.YtggnfanphcaamaaGreatDoor

