/- A part of the proof: contracts of functions and plain laws; each theorem says its own conditions. -/
import Derived.Test.YtnmhlpnapgojjaaGreatDoorPrettyBackK1
import Derived.Test.YtnmhlpnapgojjaaGreatDoorPrettyBackK13
import Derived.Test.YtnmhlpnapgojjaaGreatDoorPrettyBackK10
import Derived.Test.YtnmhlpnapgojjaaGreatDoorPrettyBackK2
set_option linter.unusedVariables false
set_option linter.unusedSimpArgs false
namespace Go.Proofs.YtnmhlpnapgojjaaGreatDoor.Pq
open Go.RowKit Sx LexS _root_.Go.Proofs.Tryz
theorem digit_iff {c : UInt8} (h : isDigit c = true) : 48 ≤ c.toNat ∧ c.toNat ≤ 57 := by simpa [isDigit] using h
theorem tokAt_num {s : List UInt8} {i : Nat} (h : i < s.length) (hc : isLetter (s.getD i 0) = false) (hd : isDigit (s.getD i 0) = true) : tokAt (s.drop i) i =
    if (1 < ((s.drop i).takeWhile isDigit).length ∧ s.getD i 0 = 48) ∨ 9223372036854775807 < numVal ((s.drop i).takeWhile isDigit) then .bad 3 i
  else if i + ((s.drop i).takeWhile isDigit).length < s.length ∧ isLetter (s.getD (i + ((s.drop i).takeWhile isDigit).length) 0) = true then .bad 4 (i + ((s.drop i).takeWhile isDigit).length)
  else .tok ⟨3, (s.drop i).takeWhile isDigit, numVal ((s.drop i).takeWhile isDigit), i⟩ := by
 have e : tokAt (s.drop i) i = if (1 < ((s.drop i).takeWhile isDigit).length ∧ s.getD i 0 = 48) ∨ 9223372036854775807 < numVal ((s.drop i).takeWhile isDigit) then .bad 3 i
     else match (s.drop i).drop ((s.drop i).takeWhile isDigit).length with
    | d :: _ => if isLetter d then .bad 4 (i + ((s.drop i).takeWhile isDigit).length) else .tok ⟨3, (s.drop i).takeWhile isDigit, numVal ((s.drop i).takeWhile isDigit), i⟩
    | [] => .tok ⟨3, (s.drop i).takeWhile isDigit, numVal ((s.drop i).takeWhile isDigit), i⟩ := by
  rw [drop_cons h]; simp only [tokAt, hc, hd, Bool.false_eq_true, if_false, if_true]; rfl
 rw [e]
 generalize (s.drop i).takeWhile isDigit = T
 split
 ·rfl
 ·rw [List.drop_drop]
  by_cases hl : i + T.length < s.length
  ·rw [drop_cons hl]; simp only [hl, true_and]
  ·rw [List.drop_eq_nil_of_le (by omega), if_neg (by omega)]
theorem u8_eq48 {c : UInt8} (h : (c.toNat : Int) = 48) : c = 48 := by
 apply UInt8.toNat_inj.1; simp; omega
theorem num_step {s : List UInt8} {i j : Nat} (hij : i ≤ j) (hj : j < s.length) : numVal ((s.drop i).take (j + 1 - i)) = 10 * numVal ((s.drop i).take (j - i)) + ((s.getD j 0).toNat - 48) := by
 rw [← numVal_snoc, show j + 1 - i = (j - i) + 1 from by omega, List.take_succ_eq_append_getElem (by simp; omega)]
 simp [List.getD, hj, show i + (j - i) = j from by omega]

set_option maxHeartbeats 1000000 in
theorem number_rd (b : Nat) (s : List UInt8) (i : Nat) (fa fr : Int) (w : World) (hb : w.heap[b]? = some (scn s i fa fr)) (hi : i < s.length) (hs : s.length ≤ 3000000) (hc : isLetter (s.getD i 0) = false) (hd : isDigit (s.getD i 0) = true) :
    Ret Tryz.prog 200 [.pointer (some ⟨b, 0, none⟩)] w fun v w' => Chg [b] w w' ∧ RdPost b s i fa fr (tokAt (s.drop i) i) v w' := by
 refine ret_of [_] func200 rfl ntmps200 rfl ?_
 have st := St.init w [b]
 replace st := St.of1 [b] hb
 refine vc_seq (vc_region ?_)
 refine vc_e (e_al (l := [_, _, _, _]) st rfl rfl zeroValue118 rfl ?_)
 intro b2 w hb2 st
 refine vc_end (vq_then (vk2 0 2 (vc_seq (vc_region ?_))))
 refine ym ?_
 refine ynk ?_
 refine yfz 1 underlying178 sizeOf3 ?_
 refine yl st 1 isAgg3 ?_
 refine ya ?_
 refine vc_end (vq_then (vk3 0 2 3 (vc_seq (vc_region ?_))))
 refine ya ?_
 refine vc_end (vq_then (vk4 0 2 3 4 (vc_seq (vc_region ?_))))
 refine ya ?_
 refine vc_end (vq_then (vk5 0 2 3 4 5 (vc_seq (vc_block ?_))))
 refine vc_loop (w0 := _) (M := _) (fun (x : Nat × Nat × Bool) => [(0, .pointer (some ⟨b, 0, none⟩)), (2, .pointer (some ⟨b2, 0, none⟩)), (3, .int .i64 (i : Int)), (4, .int .u64 (x.2.1 : Int)), (5, .bool x.2.2)]) (fun x => [.blk b2 (.cells zeroL.toArray 118 (0, 0)), .blk b (scn s x.1 fa fr)]) (fun x _ => i ≤ x.1 ∧ x.1 ≤ s.length ∧ (s.drop i).takeWhile isDigit = (s.drop i).take (x.1 - i) ++ (s.drop x.1).takeWhile isDigit ∧ x.2.1 < 18446744073709551616 ∧ x.2.2 = decide (9223372036854775807 < numVal ((s.drop i).take (x.1 - i))) ∧ (x.2.2 = false → x.2.1 = numVal ((s.drop i).take (x.1 - i)))) (fun x => s.length - x.1) (i, 0, false) ⟨rfl, rfl, rfl, rfl, rfl, trivial⟩ st ⟨by simp, by simp; omega, by simp, by simp, by simp [numVal], by simp [numVal]⟩ ?_
 rintro ⟨j, n, gr⟩ w ⟨hij, hj, he, hn64, hgr, hn⟩ st
 dsimp only at *
 refine vc_seq (vc_seq ?_)
 refine vc_draw Tryz.mixed [(0, true), (1, true), (2, true), (3, true), (4, true), (5, true), (6, true), (7, true), (8, true), (9, true), (10, true), (11, true), (12, true), (13, true), (14, true), (15, true), (16, true), (17, true), (18, true), (19, true), (20, false), (21, true)] (fun w => St _ _ _ w) st (by kernel_rfl) (by repeat (first | exact okQ_body | refine okQ_then ?_ | refine okQ_block ?_)) rfl (by kernel_rfl) ?_
 intro w cd; replace st := st.call0 cd; clear cd
 have hS := st
 refine pm hS ?_
 refine pnk hS ?_
 refine pfz hS 1 underlying178 sizeOf3 ?_
 refine pld hS 1 isAgg3 ?_
 refine pm hS ?_
 refine pnk hS ?_
 refine pf0 hS underlying178 sizeOf9 ?_
 refine pld hS 1 isAgg9 ?_
 refine vp_take rfl rfl rfl hS (fun w st => y_lens rfl underlying9) ?_
 refine vp_take rfl rfl rfl hS (fun w st => y_lss rfl rfl) ?_
 refine vp_part rfl rfl rfl hS rfl ?_ ?_
 ·intro hg21
  try simp only [dn] at hg21
  refine pm hS ?_
  refine pnk hS ?_
  refine pf0 hS underlying178 sizeOf9 ?_
  refine pld hS 1 isAgg9 ?_
  refine pm hS ?_
  refine pnk hS ?_
  refine pfz hS 1 underlying178 sizeOf3 ?_
  refine pld hS 1 isAgg3 ?_
  refine vp_take rfl rfl rfl hS (fun w st => y_ixs (k := _) rfl rfl underlying9 rfl (by omega)) ?_
  refine vp_do rfl (e_call [_] rfl rfl call113 rfl (digit_any _ _) ?_)
  rintro _ _ ⟨rfl, rfl⟩
  refine vp_next (by exact st) ?_; intro hS
  refine vp_take rfl rfl rfl hS (fun w st => y_pickt rfl rfl) ?_
  refine vp_end (vq_then (vk6 0 2 3 4 5 32 ?_))
  refine vc_ifs rfl ?_ ?_
  ·intro hc32
   try simp only [dn] at hc32
   have hdg := digit_iff hc32
   refine vc_code_skip (vq_then (vk5 0 2 3 4 5 (vc_block (vc_seq ?_))))
   refine vc_draw Tryz.mixed [(0, true), (1, true), (2, true), (3, true), (4, true), (5, true), (6, true), (7, true), (8, true), (9, true), (10, true), (11, true)] (fun w => St _ _ _ w) st (by kernel_rfl) (by repeat (first | exact okQ_body | refine okQ_then ?_ | refine okQ_block ?_)) rfl (by kernel_rfl) ?_
   intro w cd; replace st := st.call0 cd; clear cd
   have hS := st
   refine pm hS ?_
   refine pnk hS ?_
   refine pf0 hS underlying178 sizeOf9 ?_
   refine pld hS 1 isAgg9 ?_
   refine pm hS ?_
   refine pnk hS ?_
   refine pfz hS 1 underlying178 sizeOf3 ?_
   refine pld hS 1 isAgg3 ?_
   refine vp_take rfl rfl rfl hS (fun w st => y_ixs (k := _) rfl rfl underlying9 rfl (by omega)) ?_
   refine vp_take rfl rfl rfl hS (fun w st => y_subk rfl rfl (by rw [wrap_u8]; omega : _ = (((s.getD j 0).toNat - 48 : Nat) : Int))) ?_
   refine vp_take rfl rfl rfl hS (fun w st => y_cvi rfl underlying182 underlying5 (by rw [wrap_u64]; omega : _ = (((s.getD j 0).toNat - 48 : Nat) : Int))) ?_
   refine vp_take rfl rfl rfl hS (fun w st => y_as rfl) ?_
   refine vp_end (vq_then (vk6 0 2 3 4 5 6 (vc_seq (vc_region ?_))))
   refine ym ?_
   refine vmb ?_ ?_
   ·intro hg45
    try simp only [dn] at hg45
    iterate 5 refine vsk ?_
    refine ypt ?_
    refine ya ?_
    refine vc_end (vq_then (vk6 0 2 3 4 5 6 (vc_seq (vc_region ?_))))
    refine ym ?_
    refine vy (y_mulk rfl rfl (by rw [wrap_u64]; omega : _ = ((n * 10 % 18446744073709551616 : Nat) : Int))) ?_
    refine ym ?_
    refine vy (y_addk rfl rfl (by rw [wrap_u64]; omega : _ = (((n * 10 % 18446744073709551616 + ((s.getD j 0).toNat - 48)) % 18446744073709551616 : Nat) : Int))) ?_
    refine ya ?_
    refine vc_end (vq_then (vk5 0 2 3 4 5 (vc_region ?_)))
    refine ym ?_
    refine ynk ?_
    refine yfz 1 underlying178 sizeOf3 ?_
    refine yl st 1 isAgg3 ?_
    refine vy (y_add rfl rfl rfl (by omega) (by omega)) ?_
    refine ynk ?_
    refine yfz 1 underlying178 sizeOf3 ?_
    refine vc_e (e_st st 1 rfl rfl rfl rfl sizeOf3 rfl rfl (by (left; simp)) ?_)
    intro w st; dsimp only [setNth, wr] at st
    refine vc_end (vq_block ?_)
    refine vq_again (j + 1, (n * 10 % 18446744073709551616 + ((s.getD j 0).toNat - 48)) % 18446744073709551616, true)  ⟨rfl, rfl, rfl, rfl, rfl, trivial⟩ st ?_ ?_
    ·refine ⟨by omega, by omega, tw_step hij (by omega) (by assumption) he, Nat.mod_lt _ (by decide), ?_, ?_⟩
     all_goals (dsimp only; have hns := num_step hij (show j < s.length by omega))
     ·rw [hns]
      (symm; rw [decide_eq_true_eq]; subst hg45; have hh := hgr.symm; rw [decide_eq_true_eq] at hh; omega)
     ·intro hf
      (cases hf; done)
    ·dsimp only; omega
   ·intro hg45
    try simp only [dn] at hg45
    iterate 2 refine ym ?_
    refine vy (y_subk rfl rfl (by rw [wrap_u64]; omega : _ = ((9223372036854775807 - ((s.getD j 0).toNat - 48) : Nat) : Int))) ?_
    refine vy (y_quok rfl rfl (by omega) (by omega) (by rw [wrap_u64]; omega : _ = (((9223372036854775807 - ((s.getD j 0).toNat - 48)) / 10 : Nat) : Int))) ?_
    refine vy (y_gtr rfl rfl) ?_
    refine ypf ?_
    refine ya ?_
    refine vc_end (vq_then (vk6 0 2 3 4 5 6 (vc_seq (vc_region ?_))))
    refine ym ?_
    refine vy (y_mulk rfl rfl (by rw [wrap_u64]; omega : _ = ((n * 10 % 18446744073709551616 : Nat) : Int))) ?_
    refine ym ?_
    refine vy (y_addk rfl rfl (by rw [wrap_u64]; omega : _ = (((n * 10 % 18446744073709551616 + ((s.getD j 0).toNat - 48)) % 18446744073709551616 : Nat) : Int))) ?_
    refine ya ?_
    refine vc_end (vq_then (vk5 0 2 3 4 5 (vc_region ?_)))
    refine ym ?_
    refine ynk ?_
    refine yfz 1 underlying178 sizeOf3 ?_
    refine yl st 1 isAgg3 ?_
    refine vy (y_add rfl rfl rfl (by omega) (by omega)) ?_
    refine ynk ?_
    refine yfz 1 underlying178 sizeOf3 ?_
    refine vc_e (e_st st 1 rfl rfl rfl rfl sizeOf3 rfl rfl (by (left; simp)) ?_)
    intro w st; dsimp only [setNth, wr] at st
    refine vc_end (vq_block ?_)
    refine vq_again (j + 1, (n * 10 % 18446744073709551616 + ((s.getD j 0).toNat - 48)) % 18446744073709551616, decide ((((9223372036854775807 - ((s.getD j 0).toNat - 48)) / 10 : Nat) : Int) < (n : Int)))  ⟨rfl, rfl, rfl, rfl, rfl, trivial⟩ st ?_ ?_
    ·refine ⟨by omega, by omega, tw_step hij (by omega) (by assumption) he, Nat.mod_lt _ (by decide), ?_, ?_⟩
     all_goals (dsimp only; have hns := num_step hij (show j < s.length by omega))
     ·rw [hns]
      first
      | (have hz : n = numVal ((s.drop i).take (j - i)) := hn hg45
         rw [Bool.eq_iff_iff, decide_eq_true_eq, decide_eq_true_eq, ← hz]; omega)
     ·intro hf
      first
      | (have hz : n = numVal ((s.drop i).take (j - i)) := hn hg45
         rw [decide_eq_false_iff_not] at hf
         rw [hns, ← hz]; omega)
    ·dsimp only; omega
  ·intro hc32
   try simp only [dn] at hc32
   have hT := tw_end (fun _ => by assumption) he
   refine vc_exit (vq_then_exit (vq_then_exit (vq_block_exit (vq_then (vk5 0 2 3 4 5 (vc_seq (vc_block (vc_seq (vc_region ?_)))))))))
   refine ym ?_
   refine ynk ?_
   refine yfz 1 underlying178 sizeOf3 ?_
   refine yl st 1 isAgg3 ?_
   refine ym ?_
   refine vy (y_add rfl rfl rfl (by omega) (by omega)) ?_
   refine vy (y_gtr rfl rfl) ?_
   refine vmb ?_ ?_
   ·intro hg71
    try simp only [dn] at hg71
    refine ym ?_
    refine ynk ?_
    refine vy (y_fa0 rfl underlying178 rfl rfl sizeOf9 rfl) ?_
    refine yl st 1 isAgg9 ?_
    refine ym ?_
    refine vy (y_ixs (k := _) rfl rfl underlying9 rfl (by omega)) ?_
    refine vy (y_eqi rfl rfl) ?_
    refine ypt ?_
    refine vmb ?_ ?_
    ·intro hg80
     try simp only [dn] at hg80
     refine vsk ?_
     refine ypt ?_
     refine ya ?_
     refine vc_end (vq_then (vk5 0 2 3 4 63 ?_))
     refine vc_ift rfl ?_
     refine vc_seq (vc_region ?_)
     iterate 2 refine ym ?_
     refine vc_e (e_call [_, _, _] rfl rfl call229 rfl (wrong_any b s _ _ _ _ _ _ (st.res (i := 1) rfl)) ?_)
     rintro _ w ⟨rfl, cw, hw⟩
     replace st := st.turn (i := 1) (r' := .blk b _) rfl rfl rfl cw (.inl (by simp)) hw
     dsimp only [setNth] at st
     refine vc_e (e_sts (vs := [_, _, _, _]) st 0 rfl rfl rfl rfl rfl sizeOf118 rfl rfl (by (right; assumption)) ?_)
     intro w st; dsimp only [setNth, wr] at st
     refine vc_end (vq_then (vk1 2 (vc_ret (vq_block_ret (vq_then_ret ?_)))))
     refine vq_ret1 st (.inl rfl) results200 (by exact .cell 0 rfl rfl isAgg118 sizeOf118) ?_
     refine ⟨_, rfl, ?_⟩
     have hlen : (List.take (j - i) (List.drop i s)).length = j - i := by simp; omega
     have hpos : i < j := by
      rcases Nat.lt_or_ge i j with h | h
      ·exact h
      ·exfalso
       rw [show j - i = 0 by omega, List.take_zero, drop_cons hi, List.takeWhile_cons, if_pos hd] at hT
       cases hT
     refine ⟨st.chg, ?_⟩
     rw [tokAt_num hi hc hd, hT, hlen, show i + (j - i) = j by omega]
     have hr := st.res (i := 1) rfl
     (rw [if_pos (.inl ⟨by omega, u8_eq48 (by assumption)⟩)]; exact ⟨rfl, _, hr⟩)
    ·intro hg80
     try simp only [dn] at hg80
     refine ym ?_
     refine ypf ?_
     refine ya ?_
     refine vc_end (vq_then (vk5 0 2 3 4 63 ?_))
     refine vc_ifs rfl ?_ ?_
     ·intro hc63
      try simp only [dn] at hc63
      refine vc_seq (vc_region ?_)
      iterate 2 refine ym ?_
      refine vc_e (e_call [_, _, _] rfl rfl call229 rfl (wrong_any b s _ _ _ _ _ _ (st.res (i := 1) rfl)) ?_)
      rintro _ w ⟨rfl, cw, hw⟩
      replace st := st.turn (i := 1) (r' := .blk b _) rfl rfl rfl cw (.inl (by simp)) hw
      dsimp only [setNth] at st
      refine vc_e (e_sts (vs := [_, _, _, _]) st 0 rfl rfl rfl rfl rfl sizeOf118 rfl rfl (by (right; assumption)) ?_)
      intro w st; dsimp only [setNth, wr] at st
      refine vc_end (vq_then (vk1 2 (vc_ret (vq_block_ret (vq_then_ret ?_)))))
      refine vq_ret1 st (.inl rfl) results200 (by exact .cell 0 rfl rfl isAgg118 sizeOf118) ?_
      refine ⟨_, rfl, ?_⟩
      have hlen : (List.take (j - i) (List.drop i s)).length = j - i := by simp; omega
      have hpos : i < j := by
       rcases Nat.lt_or_ge i j with h | h
       ·exact h
       ·exfalso
        rw [show j - i = 0 by omega, List.take_zero, drop_cons hi, List.takeWhile_cons, if_pos hd] at hT
        cases hT
      refine ⟨st.chg, ?_⟩
      rw [tokAt_num hi hc hd, hT, hlen, show i + (j - i) = j by omega]
      have hr := st.res (i := 1) rfl
      (rw [if_pos (.inr (of_decide_eq_true (by rw [← hgr]; assumption)))]; exact ⟨rfl, _, hr⟩)
     ·intro hc63
      try simp only [dn] at hc63
      have hnn := hn hc63
      have hM : n ≤ 9223372036854775807 := by rw [hc63] at hgr; have := of_decide_eq_false hgr.symm; omega
      refine vc_seq ?_
      refine vc_draw Tryz.mixed [(0, true), (1, true), (2, true), (3, true), (4, true), (5, true), (6, true), (7, true), (8, true), (9, true), (10, true), (11, true), (12, true), (13, true), (14, true), (15, true), (16, true), (17, true), (18, true), (19, true), (20, false), (21, true), (22, true)] (fun w => St _ _ _ w) st (by kernel_rfl) (by repeat (first | exact okQ_body | refine okQ_then ?_ | refine okQ_block ?_)) rfl (by kernel_rfl) ?_
      intro w cd; replace st := st.call0 cd; clear cd
      have hS := st
      refine pm hS ?_
      refine pnk hS ?_
      refine pfz hS 1 underlying178 sizeOf3 ?_
      refine pld hS 1 isAgg3 ?_
      refine pm hS ?_
      refine pnk hS ?_
      refine pf0 hS underlying178 sizeOf9 ?_
      refine pld hS 1 isAgg9 ?_
      refine vp_take rfl rfl rfl hS (fun w st => y_lens rfl underlying9) ?_
      refine vp_take rfl rfl rfl hS (fun w st => y_lss rfl rfl) ?_
      refine vp_part rfl rfl rfl hS rfl ?_ ?_
      ·intro hg97
       try simp only [dn] at hg97
       refine pm hS ?_
       refine pnk hS ?_
       refine pf0 hS underlying178 sizeOf9 ?_
       refine pld hS 1 isAgg9 ?_
       refine pm hS ?_
       refine pnk hS ?_
       refine pfz hS 1 underlying178 sizeOf3 ?_
       refine pld hS 1 isAgg3 ?_
       refine vp_take rfl rfl rfl hS (fun w st => y_ixs (k := _) rfl rfl underlying9 rfl (by omega)) ?_
       refine vp_do rfl (e_call [_] rfl rfl call115 rfl (letter_any _ _) ?_)
       rintro _ _ ⟨rfl, rfl⟩
       refine vp_next (by exact st) ?_; intro hS
       refine vp_take rfl rfl rfl hS (fun w st => y_pickt rfl rfl) ?_
       refine vp_take rfl rfl rfl hS (fun w st => y_as rfl) ?_
       refine vp_end (vq_then (vk5 0 2 3 4 86 ?_))
       refine vc_ifs rfl ?_ ?_
       ·intro hc86
        try simp only [dn] at hc86
        refine vc_seq (vc_region ?_)
        iterate 2 refine ym ?_
        refine ynk ?_
        refine yfz 1 underlying178 sizeOf3 ?_
        refine yl st 1 isAgg3 ?_
        refine vc_e (e_call [_, _, _] rfl rfl call229 rfl (wrong_any b s _ _ _ _ _ _ (st.res (i := 1) rfl)) ?_)
        rintro _ w ⟨rfl, cw, hw⟩
        replace st := st.turn (i := 1) (r' := .blk b _) rfl rfl rfl cw (.inl (by simp)) hw
        dsimp only [setNth] at st
        refine vc_e (e_sts (vs := [_, _, _, _]) st 0 rfl rfl rfl rfl rfl sizeOf118 rfl rfl (by (right; assumption)) ?_)
        intro w st; dsimp only [setNth, wr] at st
        refine vc_end (vq_then (vk1 2 (vc_ret (vq_block_ret (vq_then_ret ?_)))))
        refine vq_ret1 st (.inl rfl) results200 (by exact .cell 0 rfl rfl isAgg118 sizeOf118) ?_
        refine ⟨_, rfl, ?_⟩
        have hlen : (List.take (j - i) (List.drop i s)).length = j - i := by simp; omega
        have hpos : i < j := by
         rcases Nat.lt_or_ge i j with h | h
         ·exact h
         ·exfalso
          rw [show j - i = 0 by omega, List.take_zero, drop_cons hi, List.takeWhile_cons, if_pos hd] at hT
          cases hT
        refine ⟨st.chg, ?_⟩
        rw [tokAt_num hi hc hd, hT, hlen, show i + (j - i) = j by omega]
        have hr := st.res (i := 1) rfl
        first
        | (have hNB : ¬((1 < j - i ∧ s.getD i 0 = 48) ∨ 9223372036854775807 < numVal (List.take (j - i) (List.drop i s))) := by
             rintro (⟨h1, h2⟩ | h2)
             · have h3 : ((s.getD i 0).toNat : Int) = 48 := by rw [h2]; rfl
               omega
             · omega
           rw [if_neg hNB]
           (rw [if_pos ⟨by omega, by assumption⟩]; exact ⟨rfl, _, hr⟩))
       ·intro hc86
        try simp only [dn] at hc86
        refine vc_code_skip (vq_block (vq_then (vk4 0 2 3 4 (vc_seq ?_))))
        refine vc_draw Tryz.mixed [(0, true), (1, true), (2, true), (3, true), (4, true), (5, true), (6, true), (7, true), (8, true), (9, true), (10, true), (11, true), (12, true), (13, true), (14, false)] (fun w => St _ _ [.blk b (scn s j fa fr)] w) st.dr (by kernel_rfl) (by repeat (first | exact okQ_body | refine okQ_then ?_ | refine okQ_block ?_)) rfl (by kernel_rfl) ?_
        intro w cd; replace st := st.call0 cd; clear cd
        have hS : St _ _ [.blk b (scn s j fa fr)] w := st.dr
        refine pm hS ?_
        refine pnk hS ?_
        refine pf0 hS underlying178 sizeOf9 ?_
        refine pld hS 0 isAgg9 ?_
        iterate 2 refine pm hS ?_
        refine pnk hS ?_
        refine pfz hS 1 underlying178 sizeOf3 ?_
        refine pld hS 0 isAgg3 ?_
        refine vp_take rfl rfl rfl hS (fun w st => y_sls (i := _) (j := _) rfl rfl rfl underlying9 rfl rfl (by omega) (by omega)) ?_
        refine pm hS ?_
        refine vp_take rfl rfl rfl hS (fun w st => y_cvi rfl underlying2 underlying182 (IntWalk.i64_in _ ⟨by omega, by omega⟩ : _ = (n : Int))) ?_
        refine pm hS ?_
        refine vp_take rfl rfl rfl hS (fun w st => y_bld (.agg #[_, _, _, _]) [(0, _), (1, _), (2, _), (3, _)] rfl (fun w => by simp [Instr.build, go_sem] <;> repeat' constructor)) ?_
        refine vp_do rfl (e_sts (vs := [_, _, _, _]) st 0 rfl rfl rfl rfl rfl sizeOf118 rfl rfl (by (right; assumption)) ?_)
        intro w st; dsimp only [setNth, wr] at st
        refine vp_next st.dr ?_; intro hS
        refine vp_end (vq_then (vk1 2 (vc_ret ?_)))
        refine vq_ret1 st (.inl rfl) results200 (by exact .cell 0 rfl rfl isAgg118 sizeOf118) ?_
        refine ⟨_, rfl, ?_⟩
        have hlen : (List.take (j - i) (List.drop i s)).length = j - i := by simp; omega
        have hpos : i < j := by
         rcases Nat.lt_or_ge i j with h | h
         ·exact h
         ·exfalso
          rw [show j - i = 0 by omega, List.take_zero, drop_cons hi, List.takeWhile_cons, if_pos hd] at hT
          cases hT
        refine ⟨st.chg, ?_⟩
        rw [tokAt_num hi hc hd, hT, hlen, show i + (j - i) = j by omega]
        have hr := st.res (i := 1) rfl
        first
        | (have hNB : ¬((1 < j - i ∧ s.getD i 0 = 48) ∨ 9223372036854775807 < numVal (List.take (j - i) (List.drop i s))) := by
             rintro (⟨h1, h2⟩ | h2)
             · have h3 : ((s.getD i 0).toNat : Int) = 48 := by rw [h2]; rfl
               omega
             · omega
           rw [if_neg hNB]
           first
           | (rw [if_neg (by rintro ⟨h1, h2⟩; simp_all)]
              exact ⟨by rw [← hnn]; rfl, by dsimp only; rw [hlen, show i + (j - i) = j by omega]; exact hr⟩))
      ·intro hg97
       try simp only [dn] at hg97
       iterate 9 refine vp_skip rfl rfl rfl hS ?_
       refine vp_do rfl (e_skip rfl rfl (vp_next hS (fun hS => ?_)))
       refine vp_take rfl rfl rfl hS (fun w st => y_pickf rfl rfl) ?_
       refine vp_take rfl rfl rfl hS (fun w st => y_as rfl) ?_
       refine vp_end (vq_then (vk5 0 2 3 4 86 ?_))
       refine vc_iff rfl ?_
       refine vc_code_skip (vq_block (vq_then (vk4 0 2 3 4 (vc_seq ?_))))
       refine vc_draw Tryz.mixed [(0, true), (1, true), (2, true), (3, true), (4, true), (5, true), (6, true), (7, true), (8, true), (9, true), (10, true), (11, true), (12, true), (13, true), (14, false)] (fun w => St _ _ [.blk b (scn s j fa fr)] w) st.dr (by kernel_rfl) (by repeat (first | exact okQ_body | refine okQ_then ?_ | refine okQ_block ?_)) rfl (by kernel_rfl) ?_
       intro w cd; replace st := st.call0 cd; clear cd
       have hS : St _ _ [.blk b (scn s j fa fr)] w := st.dr
       refine pm hS ?_
       refine pnk hS ?_
       refine pf0 hS underlying178 sizeOf9 ?_
       refine pld hS 0 isAgg9 ?_
       iterate 2 refine pm hS ?_
       refine pnk hS ?_
       refine pfz hS 1 underlying178 sizeOf3 ?_
       refine pld hS 0 isAgg3 ?_
       refine vp_take rfl rfl rfl hS (fun w st => y_sls (i := _) (j := _) rfl rfl rfl underlying9 rfl rfl (by omega) (by omega)) ?_
       refine pm hS ?_
       refine vp_take rfl rfl rfl hS (fun w st => y_cvi rfl underlying2 underlying182 (IntWalk.i64_in _ ⟨by omega, by omega⟩ : _ = (n : Int))) ?_
       refine pm hS ?_
       refine vp_take rfl rfl rfl hS (fun w st => y_bld (.agg #[_, _, _, _]) [(0, _), (1, _), (2, _), (3, _)] rfl (fun w => by simp [Instr.build, go_sem] <;> repeat' constructor)) ?_
       refine vp_do rfl (e_sts (vs := [_, _, _, _]) st 0 rfl rfl rfl rfl rfl sizeOf118 rfl rfl (by (right; assumption)) ?_)
       intro w st; dsimp only [setNth, wr] at st
       refine vp_next st.dr ?_; intro hS
       refine vp_end (vq_then (vk1 2 (vc_ret ?_)))
       refine vq_ret1 st (.inl rfl) results200 (by exact .cell 0 rfl rfl isAgg118 sizeOf118) ?_
       refine ⟨_, rfl, ?_⟩
       have hlen : (List.take (j - i) (List.drop i s)).length = j - i := by simp; omega
       have hpos : i < j := by
        rcases Nat.lt_or_ge i j with h | h
        ·exact h
        ·exfalso
         rw [show j - i = 0 by omega, List.take_zero, drop_cons hi, List.takeWhile_cons, if_pos hd] at hT
         cases hT
       refine ⟨st.chg, ?_⟩
       rw [tokAt_num hi hc hd, hT, hlen, show i + (j - i) = j by omega]
       have hr := st.res (i := 1) rfl
       first
       | (have hNB : ¬((1 < j - i ∧ s.getD i 0 = 48) ∨ 9223372036854775807 < numVal (List.take (j - i) (List.drop i s))) := by
            rintro (⟨h1, h2⟩ | h2)
            · have h3 : ((s.getD i 0).toNat : Int) = 48 := by rw [h2]; rfl
              omega
            · omega
          rw [if_neg hNB]
          first
          | (rw [if_neg (by rintro ⟨h1, h2⟩; omega)]
             exact ⟨by rw [← hnn]; rfl, by dsimp only; rw [hlen, show i + (j - i) = j by omega]; exact hr⟩))
   ·intro hg71
    try simp only [dn] at hg71
    iterate 7 refine vsk ?_
    refine ypf ?_
    iterate 2 refine ym ?_
    refine ypf ?_
    refine ya ?_
    refine vc_end (vq_then (vk5 0 2 3 4 63 ?_))
    refine vc_ifs rfl ?_ ?_
    ·intro hc63
     try simp only [dn] at hc63
     refine vc_seq (vc_region ?_)
     iterate 2 refine ym ?_
     refine vc_e (e_call [_, _, _] rfl rfl call229 rfl (wrong_any b s _ _ _ _ _ _ (st.res (i := 1) rfl)) ?_)
     rintro _ w ⟨rfl, cw, hw⟩
     replace st := st.turn (i := 1) (r' := .blk b _) rfl rfl rfl cw (.inl (by simp)) hw
     dsimp only [setNth] at st
     refine vc_e (e_sts (vs := [_, _, _, _]) st 0 rfl rfl rfl rfl rfl sizeOf118 rfl rfl (by (right; assumption)) ?_)
     intro w st; dsimp only [setNth, wr] at st
     refine vc_end (vq_then (vk1 2 (vc_ret (vq_block_ret (vq_then_ret ?_)))))
     refine vq_ret1 st (.inl rfl) results200 (by exact .cell 0 rfl rfl isAgg118 sizeOf118) ?_
     refine ⟨_, rfl, ?_⟩
     have hlen : (List.take (j - i) (List.drop i s)).length = j - i := by simp; omega
     have hpos : i < j := by
      rcases Nat.lt_or_ge i j with h | h
      ·exact h
      ·exfalso
       rw [show j - i = 0 by omega, List.take_zero, drop_cons hi, List.takeWhile_cons, if_pos hd] at hT
       cases hT
     refine ⟨st.chg, ?_⟩
     rw [tokAt_num hi hc hd, hT, hlen, show i + (j - i) = j by omega]
     have hr := st.res (i := 1) rfl
     (rw [if_pos (.inr (of_decide_eq_true (by rw [← hgr]; assumption)))]; exact ⟨rfl, _, hr⟩)
    ·intro hc63
     try simp only [dn] at hc63
     have hnn := hn hc63
     have hM : n ≤ 9223372036854775807 := by rw [hc63] at hgr; have := of_decide_eq_false hgr.symm; omega
     refine vc_seq ?_
     refine vc_draw Tryz.mixed [(0, true), (1, true), (2, true), (3, true), (4, true), (5, true), (6, true), (7, true), (8, true), (9, true), (10, true), (11, true), (12, true), (13, true), (14, true), (15, true), (16, true), (17, true), (18, true), (19, true), (20, false), (21, true), (22, true)] (fun w => St _ _ _ w) st (by kernel_rfl) (by repeat (first | exact okQ_body | refine okQ_then ?_ | refine okQ_block ?_)) rfl (by kernel_rfl) ?_
     intro w cd; replace st := st.call0 cd; clear cd
     have hS := st
     refine pm hS ?_
     refine pnk hS ?_
     refine pfz hS 1 underlying178 sizeOf3 ?_
     refine pld hS 1 isAgg3 ?_
     refine pm hS ?_
     refine pnk hS ?_
     refine pf0 hS underlying178 sizeOf9 ?_
     refine pld hS 1 isAgg9 ?_
     refine vp_take rfl rfl rfl hS (fun w st => y_lens rfl underlying9) ?_
     refine vp_take rfl rfl rfl hS (fun w st => y_lss rfl rfl) ?_
     refine vp_part rfl rfl rfl hS rfl ?_ ?_
     ·intro hg97
      try simp only [dn] at hg97
      refine pm hS ?_
      refine pnk hS ?_
      refine pf0 hS underlying178 sizeOf9 ?_
      refine pld hS 1 isAgg9 ?_
      refine pm hS ?_
      refine pnk hS ?_
      refine pfz hS 1 underlying178 sizeOf3 ?_
      refine pld hS 1 isAgg3 ?_
      refine vp_take rfl rfl rfl hS (fun w st => y_ixs (k := _) rfl rfl underlying9 rfl (by omega)) ?_
      refine vp_do rfl (e_call [_] rfl rfl call115 rfl (letter_any _ _) ?_)
      rintro _ _ ⟨rfl, rfl⟩
      refine vp_next (by exact st) ?_; intro hS
      refine vp_take rfl rfl rfl hS (fun w st => y_pickt rfl rfl) ?_
      refine vp_take rfl rfl rfl hS (fun w st => y_as rfl) ?_
      refine vp_end (vq_then (vk5 0 2 3 4 86 ?_))
      refine vc_ifs rfl ?_ ?_
      ·intro hc86
       try simp only [dn] at hc86
       refine vc_seq (vc_region ?_)
       iterate 2 refine ym ?_
       refine ynk ?_
       refine yfz 1 underlying178 sizeOf3 ?_
       refine yl st 1 isAgg3 ?_
       refine vc_e (e_call [_, _, _] rfl rfl call229 rfl (wrong_any b s _ _ _ _ _ _ (st.res (i := 1) rfl)) ?_)
       rintro _ w ⟨rfl, cw, hw⟩
       replace st := st.turn (i := 1) (r' := .blk b _) rfl rfl rfl cw (.inl (by simp)) hw
       dsimp only [setNth] at st
       refine vc_e (e_sts (vs := [_, _, _, _]) st 0 rfl rfl rfl rfl rfl sizeOf118 rfl rfl (by (right; assumption)) ?_)
       intro w st; dsimp only [setNth, wr] at st
       refine vc_end (vq_then (vk1 2 (vc_ret (vq_block_ret (vq_then_ret ?_)))))
       refine vq_ret1 st (.inl rfl) results200 (by exact .cell 0 rfl rfl isAgg118 sizeOf118) ?_
       refine ⟨_, rfl, ?_⟩
       have hlen : (List.take (j - i) (List.drop i s)).length = j - i := by simp; omega
       have hpos : i < j := by
        rcases Nat.lt_or_ge i j with h | h
        ·exact h
        ·exfalso
         rw [show j - i = 0 by omega, List.take_zero, drop_cons hi, List.takeWhile_cons, if_pos hd] at hT
         cases hT
       refine ⟨st.chg, ?_⟩
       rw [tokAt_num hi hc hd, hT, hlen, show i + (j - i) = j by omega]
       have hr := st.res (i := 1) rfl
       first
       | (have hNB : ¬((1 < j - i ∧ s.getD i 0 = 48) ∨ 9223372036854775807 < numVal (List.take (j - i) (List.drop i s))) := by
            rintro (⟨h1, h2⟩ | h2)
            · have h3 : ((s.getD i 0).toNat : Int) = 48 := by rw [h2]; rfl
              omega
            · omega
          rw [if_neg hNB]
          (rw [if_pos ⟨by omega, by assumption⟩]; exact ⟨rfl, _, hr⟩))
      ·intro hc86
       try simp only [dn] at hc86
       refine vc_code_skip (vq_block (vq_then (vk4 0 2 3 4 (vc_seq ?_))))
       refine vc_draw Tryz.mixed [(0, true), (1, true), (2, true), (3, true), (4, true), (5, true), (6, true), (7, true), (8, true), (9, true), (10, true), (11, true), (12, true), (13, true), (14, false)] (fun w => St _ _ [.blk b (scn s j fa fr)] w) st.dr (by kernel_rfl) (by repeat (first | exact okQ_body | refine okQ_then ?_ | refine okQ_block ?_)) rfl (by kernel_rfl) ?_
       intro w cd; replace st := st.call0 cd; clear cd
       have hS : St _ _ [.blk b (scn s j fa fr)] w := st.dr
       refine pm hS ?_
       refine pnk hS ?_
       refine pf0 hS underlying178 sizeOf9 ?_
       refine pld hS 0 isAgg9 ?_
       iterate 2 refine pm hS ?_
       refine pnk hS ?_
       refine pfz hS 1 underlying178 sizeOf3 ?_
       refine pld hS 0 isAgg3 ?_
       refine vp_take rfl rfl rfl hS (fun w st => y_sls (i := _) (j := _) rfl rfl rfl underlying9 rfl rfl (by omega) (by omega)) ?_
       refine pm hS ?_
       refine vp_take rfl rfl rfl hS (fun w st => y_cvi rfl underlying2 underlying182 (IntWalk.i64_in _ ⟨by omega, by omega⟩ : _ = (n : Int))) ?_
       refine pm hS ?_
       refine vp_take rfl rfl rfl hS (fun w st => y_bld (.agg #[_, _, _, _]) [(0, _), (1, _), (2, _), (3, _)] rfl (fun w => by simp [Instr.build, go_sem] <;> repeat' constructor)) ?_
       refine vp_do rfl (e_sts (vs := [_, _, _, _]) st 0 rfl rfl rfl rfl rfl sizeOf118 rfl rfl (by (right; assumption)) ?_)
       intro w st; dsimp only [setNth, wr] at st
       refine vp_next st.dr ?_; intro hS
       refine vp_end (vq_then (vk1 2 (vc_ret ?_)))
       refine vq_ret1 st (.inl rfl) results200 (by exact .cell 0 rfl rfl isAgg118 sizeOf118) ?_
       refine ⟨_, rfl, ?_⟩
       have hlen : (List.take (j - i) (List.drop i s)).length = j - i := by simp; omega
       have hpos : i < j := by
        rcases Nat.lt_or_ge i j with h | h
        ·exact h
        ·exfalso
         rw [show j - i = 0 by omega, List.take_zero, drop_cons hi, List.takeWhile_cons, if_pos hd] at hT
         cases hT
       refine ⟨st.chg, ?_⟩
       rw [tokAt_num hi hc hd, hT, hlen, show i + (j - i) = j by omega]
       have hr := st.res (i := 1) rfl
       first
       | (have hNB : ¬((1 < j - i ∧ s.getD i 0 = 48) ∨ 9223372036854775807 < numVal (List.take (j - i) (List.drop i s))) := by
            rintro (⟨h1, h2⟩ | h2)
            · have h3 : ((s.getD i 0).toNat : Int) = 48 := by rw [h2]; rfl
              omega
            · omega
          rw [if_neg hNB]
          first
          | (rw [if_neg (by rintro ⟨h1, h2⟩; simp_all)]
             exact ⟨by rw [← hnn]; rfl, by dsimp only; rw [hlen, show i + (j - i) = j by omega]; exact hr⟩))
     ·intro hg97
      try simp only [dn] at hg97
      iterate 9 refine vp_skip rfl rfl rfl hS ?_
      refine vp_do rfl (e_skip rfl rfl (vp_next hS (fun hS => ?_)))
      refine vp_take rfl rfl rfl hS (fun w st => y_pickf rfl rfl) ?_
      refine vp_take rfl rfl rfl hS (fun w st => y_as rfl) ?_
      refine vp_end (vq_then (vk5 0 2 3 4 86 ?_))
      refine vc_iff rfl ?_
      refine vc_code_skip (vq_block (vq_then (vk4 0 2 3 4 (vc_seq ?_))))
      refine vc_draw Tryz.mixed [(0, true), (1, true), (2, true), (3, true), (4, true), (5, true), (6, true), (7, true), (8, true), (9, true), (10, true), (11, true), (12, true), (13, true), (14, false)] (fun w => St _ _ [.blk b (scn s j fa fr)] w) st.dr (by kernel_rfl) (by repeat (first | exact okQ_body | refine okQ_then ?_ | refine okQ_block ?_)) rfl (by kernel_rfl) ?_
      intro w cd; replace st := st.call0 cd; clear cd
      have hS : St _ _ [.blk b (scn s j fa fr)] w := st.dr
      refine pm hS ?_
      refine pnk hS ?_
      refine pf0 hS underlying178 sizeOf9 ?_
      refine pld hS 0 isAgg9 ?_
      iterate 2 refine pm hS ?_
      refine pnk hS ?_
      refine pfz hS 1 underlying178 sizeOf3 ?_
      refine pld hS 0 isAgg3 ?_
      refine vp_take rfl rfl rfl hS (fun w st => y_sls (i := _) (j := _) rfl rfl rfl underlying9 rfl rfl (by omega) (by omega)) ?_
      refine pm hS ?_
      refine vp_take rfl rfl rfl hS (fun w st => y_cvi rfl underlying2 underlying182 (IntWalk.i64_in _ ⟨by omega, by omega⟩ : _ = (n : Int))) ?_
      refine pm hS ?_
      refine vp_take rfl rfl rfl hS (fun w st => y_bld (.agg #[_, _, _, _]) [(0, _), (1, _), (2, _), (3, _)] rfl (fun w => by simp [Instr.build, go_sem] <;> repeat' constructor)) ?_
      refine vp_do rfl (e_sts (vs := [_, _, _, _]) st 0 rfl rfl rfl rfl rfl sizeOf118 rfl rfl (by (right; assumption)) ?_)
      intro w st; dsimp only [setNth, wr] at st
      refine vp_next st.dr ?_; intro hS
      refine vp_end (vq_then (vk1 2 (vc_ret ?_)))
      refine vq_ret1 st (.inl rfl) results200 (by exact .cell 0 rfl rfl isAgg118 sizeOf118) ?_
      refine ⟨_, rfl, ?_⟩
      have hlen : (List.take (j - i) (List.drop i s)).length = j - i := by simp; omega
      have hpos : i < j := by
       rcases Nat.lt_or_ge i j with h | h
       ·exact h
       ·exfalso
        rw [show j - i = 0 by omega, List.take_zero, drop_cons hi, List.takeWhile_cons, if_pos hd] at hT
        cases hT
      refine ⟨st.chg, ?_⟩
      rw [tokAt_num hi hc hd, hT, hlen, show i + (j - i) = j by omega]
      have hr := st.res (i := 1) rfl
      first
      | (have hNB : ¬((1 < j - i ∧ s.getD i 0 = 48) ∨ 9223372036854775807 < numVal (List.take (j - i) (List.drop i s))) := by
           rintro (⟨h1, h2⟩ | h2)
           · have h3 : ((s.getD i 0).toNat : Int) = 48 := by rw [h2]; rfl
             omega
           · omega
         rw [if_neg hNB]
         first
         | (rw [if_neg (by rintro ⟨h1, h2⟩; omega)]
            exact ⟨by rw [← hnn]; rfl, by dsimp only; rw [hlen, show i + (j - i) = j by omega]; exact hr⟩))
 ·intro hg21
  try simp only [dn] at hg21
  have hT := tw_end (fun h => absurd h (by omega)) he
  iterate 9 refine vp_skip rfl rfl rfl hS ?_
  refine vp_do rfl (e_skip rfl rfl (vp_next hS (fun hS => ?_)))
  refine vp_take rfl rfl rfl hS (fun w st => y_pickf rfl rfl) ?_
  refine vp_end (vq_then (vk6 0 2 3 4 5 32 ?_))
  refine vc_iff rfl ?_
  refine vc_exit (vq_then_exit (vq_then_exit (vq_block_exit (vq_then (vk5 0 2 3 4 5 (vc_seq (vc_block (vc_seq (vc_region ?_)))))))))
  refine ym ?_
  refine ynk ?_
  refine yfz 1 underlying178 sizeOf3 ?_
  refine yl st 1 isAgg3 ?_
  refine ym ?_
  refine vy (y_add rfl rfl rfl (by omega) (by omega)) ?_
  refine vy (y_gtr rfl rfl) ?_
  refine vmb ?_ ?_
  ·intro hg71
   try simp only [dn] at hg71
   refine ym ?_
   refine ynk ?_
   refine vy (y_fa0 rfl underlying178 rfl rfl sizeOf9 rfl) ?_
   refine yl st 1 isAgg9 ?_
   refine ym ?_
   refine vy (y_ixs (k := _) rfl rfl underlying9 rfl (by omega)) ?_
   refine vy (y_eqi rfl rfl) ?_
   refine ypt ?_
   refine vmb ?_ ?_
   ·intro hg80
    try simp only [dn] at hg80
    refine vsk ?_
    refine ypt ?_
    refine ya ?_
    refine vc_end (vq_then (vk5 0 2 3 4 63 ?_))
    refine vc_ift rfl ?_
    refine vc_seq (vc_region ?_)
    iterate 2 refine ym ?_
    refine vc_e (e_call [_, _, _] rfl rfl call229 rfl (wrong_any b s _ _ _ _ _ _ (st.res (i := 1) rfl)) ?_)
    rintro _ w ⟨rfl, cw, hw⟩
    replace st := st.turn (i := 1) (r' := .blk b _) rfl rfl rfl cw (.inl (by simp)) hw
    dsimp only [setNth] at st
    refine vc_e (e_sts (vs := [_, _, _, _]) st 0 rfl rfl rfl rfl rfl sizeOf118 rfl rfl (by (right; assumption)) ?_)
    intro w st; dsimp only [setNth, wr] at st
    refine vc_end (vq_then (vk1 2 (vc_ret (vq_block_ret (vq_then_ret ?_)))))
    refine vq_ret1 st (.inl rfl) results200 (by exact .cell 0 rfl rfl isAgg118 sizeOf118) ?_
    refine ⟨_, rfl, ?_⟩
    have hlen : (List.take (j - i) (List.drop i s)).length = j - i := by simp; omega
    have hpos : i < j := by
     rcases Nat.lt_or_ge i j with h | h
     ·exact h
     ·exfalso
      rw [show j - i = 0 by omega, List.take_zero, drop_cons hi, List.takeWhile_cons, if_pos hd] at hT
      cases hT
    refine ⟨st.chg, ?_⟩
    rw [tokAt_num hi hc hd, hT, hlen, show i + (j - i) = j by omega]
    have hr := st.res (i := 1) rfl
    (rw [if_pos (.inl ⟨by omega, u8_eq48 (by assumption)⟩)]; exact ⟨rfl, _, hr⟩)
   ·intro hg80
    try simp only [dn] at hg80
    refine ym ?_
    refine ypf ?_
    refine ya ?_
    refine vc_end (vq_then (vk5 0 2 3 4 63 ?_))
    refine vc_ifs rfl ?_ ?_
    ·intro hc63
     try simp only [dn] at hc63
     refine vc_seq (vc_region ?_)
     iterate 2 refine ym ?_
     refine vc_e (e_call [_, _, _] rfl rfl call229 rfl (wrong_any b s _ _ _ _ _ _ (st.res (i := 1) rfl)) ?_)
     rintro _ w ⟨rfl, cw, hw⟩
     replace st := st.turn (i := 1) (r' := .blk b _) rfl rfl rfl cw (.inl (by simp)) hw
     dsimp only [setNth] at st
     refine vc_e (e_sts (vs := [_, _, _, _]) st 0 rfl rfl rfl rfl rfl sizeOf118 rfl rfl (by (right; assumption)) ?_)
     intro w st; dsimp only [setNth, wr] at st
     refine vc_end (vq_then (vk1 2 (vc_ret (vq_block_ret (vq_then_ret ?_)))))
     refine vq_ret1 st (.inl rfl) results200 (by exact .cell 0 rfl rfl isAgg118 sizeOf118) ?_
     refine ⟨_, rfl, ?_⟩
     have hlen : (List.take (j - i) (List.drop i s)).length = j - i := by simp; omega
     have hpos : i < j := by
      rcases Nat.lt_or_ge i j with h | h
      ·exact h
      ·exfalso
       rw [show j - i = 0 by omega, List.take_zero, drop_cons hi, List.takeWhile_cons, if_pos hd] at hT
       cases hT
     refine ⟨st.chg, ?_⟩
     rw [tokAt_num hi hc hd, hT, hlen, show i + (j - i) = j by omega]
     have hr := st.res (i := 1) rfl
     (rw [if_pos (.inr (of_decide_eq_true (by rw [← hgr]; assumption)))]; exact ⟨rfl, _, hr⟩)
    ·intro hc63
     try simp only [dn] at hc63
     have hnn := hn hc63
     have hM : n ≤ 9223372036854775807 := by rw [hc63] at hgr; have := of_decide_eq_false hgr.symm; omega
     refine vc_seq ?_
     refine vc_draw Tryz.mixed [(0, true), (1, true), (2, true), (3, true), (4, true), (5, true), (6, true), (7, true), (8, true), (9, true), (10, true), (11, true), (12, true), (13, true), (14, true), (15, true), (16, true), (17, true), (18, true), (19, true), (20, false), (21, true), (22, true)] (fun w => St _ _ _ w) st (by kernel_rfl) (by repeat (first | exact okQ_body | refine okQ_then ?_ | refine okQ_block ?_)) rfl (by kernel_rfl) ?_
     intro w cd; replace st := st.call0 cd; clear cd
     have hS := st
     refine pm hS ?_
     refine pnk hS ?_
     refine pfz hS 1 underlying178 sizeOf3 ?_
     refine pld hS 1 isAgg3 ?_
     refine pm hS ?_
     refine pnk hS ?_
     refine pf0 hS underlying178 sizeOf9 ?_
     refine pld hS 1 isAgg9 ?_
     refine vp_take rfl rfl rfl hS (fun w st => y_lens rfl underlying9) ?_
     refine vp_take rfl rfl rfl hS (fun w st => y_lss rfl rfl) ?_
     refine vp_part rfl rfl rfl hS rfl ?_ ?_
     ·intro hg97
      try simp only [dn] at hg97
      refine pm hS ?_
      refine pnk hS ?_
      refine pf0 hS underlying178 sizeOf9 ?_
      refine pld hS 1 isAgg9 ?_
      refine pm hS ?_
      refine pnk hS ?_
      refine pfz hS 1 underlying178 sizeOf3 ?_
      refine pld hS 1 isAgg3 ?_
      refine vp_take rfl rfl rfl hS (fun w st => y_ixs (k := _) rfl rfl underlying9 rfl (by omega)) ?_
      refine vp_do rfl (e_call [_] rfl rfl call115 rfl (letter_any _ _) ?_)
      rintro _ _ ⟨rfl, rfl⟩
      refine vp_next (by exact st) ?_; intro hS
      refine vp_take rfl rfl rfl hS (fun w st => y_pickt rfl rfl) ?_
      refine vp_take rfl rfl rfl hS (fun w st => y_as rfl) ?_
      refine vp_end (vq_then (vk5 0 2 3 4 86 ?_))
      refine vc_ifs rfl ?_ ?_
      ·intro hc86
       try simp only [dn] at hc86
       refine vc_seq (vc_region ?_)
       iterate 2 refine ym ?_
       refine ynk ?_
       refine yfz 1 underlying178 sizeOf3 ?_
       refine yl st 1 isAgg3 ?_
       refine vc_e (e_call [_, _, _] rfl rfl call229 rfl (wrong_any b s _ _ _ _ _ _ (st.res (i := 1) rfl)) ?_)
       rintro _ w ⟨rfl, cw, hw⟩
       replace st := st.turn (i := 1) (r' := .blk b _) rfl rfl rfl cw (.inl (by simp)) hw
       dsimp only [setNth] at st
       refine vc_e (e_sts (vs := [_, _, _, _]) st 0 rfl rfl rfl rfl rfl sizeOf118 rfl rfl (by (right; assumption)) ?_)
       intro w st; dsimp only [setNth, wr] at st
       refine vc_end (vq_then (vk1 2 (vc_ret (vq_block_ret (vq_then_ret ?_)))))
       refine vq_ret1 st (.inl rfl) results200 (by exact .cell 0 rfl rfl isAgg118 sizeOf118) ?_
       refine ⟨_, rfl, ?_⟩
       have hlen : (List.take (j - i) (List.drop i s)).length = j - i := by simp; omega
       have hpos : i < j := by
        rcases Nat.lt_or_ge i j with h | h
        ·exact h
        ·exfalso
         rw [show j - i = 0 by omega, List.take_zero, drop_cons hi, List.takeWhile_cons, if_pos hd] at hT
         cases hT
       refine ⟨st.chg, ?_⟩
       rw [tokAt_num hi hc hd, hT, hlen, show i + (j - i) = j by omega]
       have hr := st.res (i := 1) rfl
       first
       | (have hNB : ¬((1 < j - i ∧ s.getD i 0 = 48) ∨ 9223372036854775807 < numVal (List.take (j - i) (List.drop i s))) := by
            rintro (⟨h1, h2⟩ | h2)
            · have h3 : ((s.getD i 0).toNat : Int) = 48 := by rw [h2]; rfl
              omega
            · omega
          rw [if_neg hNB]
          (rw [if_pos ⟨by omega, by assumption⟩]; exact ⟨rfl, _, hr⟩))
      ·intro hc86
       try simp only [dn] at hc86
       refine vc_code_skip (vq_block (vq_then (vk4 0 2 3 4 (vc_seq ?_))))
       refine vc_draw Tryz.mixed [(0, true), (1, true), (2, true), (3, true), (4, true), (5, true), (6, true), (7, true), (8, true), (9, true), (10, true), (11, true), (12, true), (13, true), (14, false)] (fun w => St _ _ [.blk b (scn s j fa fr)] w) st.dr (by kernel_rfl) (by repeat (first | exact okQ_body | refine okQ_then ?_ | refine okQ_block ?_)) rfl (by kernel_rfl) ?_
       intro w cd; replace st := st.call0 cd; clear cd
       have hS : St _ _ [.blk b (scn s j fa fr)] w := st.dr
       refine pm hS ?_
       refine pnk hS ?_
       refine pf0 hS underlying178 sizeOf9 ?_
       refine pld hS 0 isAgg9 ?_
       iterate 2 refine pm hS ?_
       refine pnk hS ?_
       refine pfz hS 1 underlying178 sizeOf3 ?_
       refine pld hS 0 isAgg3 ?_
       refine vp_take rfl rfl rfl hS (fun w st => y_sls (i := _) (j := _) rfl rfl rfl underlying9 rfl rfl (by omega) (by omega)) ?_
       refine pm hS ?_
       refine vp_take rfl rfl rfl hS (fun w st => y_cvi rfl underlying2 underlying182 (IntWalk.i64_in _ ⟨by omega, by omega⟩ : _ = (n : Int))) ?_
       refine pm hS ?_
       refine vp_take rfl rfl rfl hS (fun w st => y_bld (.agg #[_, _, _, _]) [(0, _), (1, _), (2, _), (3, _)] rfl (fun w => by simp [Instr.build, go_sem] <;> repeat' constructor)) ?_
       refine vp_do rfl (e_sts (vs := [_, _, _, _]) st 0 rfl rfl rfl rfl rfl sizeOf118 rfl rfl (by (right; assumption)) ?_)
       intro w st; dsimp only [setNth, wr] at st
       refine vp_next st.dr ?_; intro hS
       refine vp_end (vq_then (vk1 2 (vc_ret ?_)))
       refine vq_ret1 st (.inl rfl) results200 (by exact .cell 0 rfl rfl isAgg118 sizeOf118) ?_
       refine ⟨_, rfl, ?_⟩
       have hlen : (List.take (j - i) (List.drop i s)).length = j - i := by simp; omega
       have hpos : i < j := by
        rcases Nat.lt_or_ge i j with h | h
        ·exact h
        ·exfalso
         rw [show j - i = 0 by omega, List.take_zero, drop_cons hi, List.takeWhile_cons, if_pos hd] at hT
         cases hT
       refine ⟨st.chg, ?_⟩
       rw [tokAt_num hi hc hd, hT, hlen, show i + (j - i) = j by omega]
       have hr := st.res (i := 1) rfl
       first
       | (have hNB : ¬((1 < j - i ∧ s.getD i 0 = 48) ∨ 9223372036854775807 < numVal (List.take (j - i) (List.drop i s))) := by
            rintro (⟨h1, h2⟩ | h2)
            · have h3 : ((s.getD i 0).toNat : Int) = 48 := by rw [h2]; rfl
              omega
            · omega
          rw [if_neg hNB]
          first
          | (rw [if_neg (by rintro ⟨h1, h2⟩; omega)]
             exact ⟨by rw [← hnn]; rfl, by dsimp only; rw [hlen, show i + (j - i) = j by omega]; exact hr⟩))
     ·intro hg97
      try simp only [dn] at hg97
      iterate 9 refine vp_skip rfl rfl rfl hS ?_
      refine vp_do rfl (e_skip rfl rfl (vp_next hS (fun hS => ?_)))
      refine vp_take rfl rfl rfl hS (fun w st => y_pickf rfl rfl) ?_
      refine vp_take rfl rfl rfl hS (fun w st => y_as rfl) ?_
      refine vp_end (vq_then (vk5 0 2 3 4 86 ?_))
      refine vc_iff rfl ?_
      refine vc_code_skip (vq_block (vq_then (vk4 0 2 3 4 (vc_seq ?_))))
      refine vc_draw Tryz.mixed [(0, true), (1, true), (2, true), (3, true), (4, true), (5, true), (6, true), (7, true), (8, true), (9, true), (10, true), (11, true), (12, true), (13, true), (14, false)] (fun w => St _ _ [.blk b (scn s j fa fr)] w) st.dr (by kernel_rfl) (by repeat (first | exact okQ_body | refine okQ_then ?_ | refine okQ_block ?_)) rfl (by kernel_rfl) ?_
      intro w cd; replace st := st.call0 cd; clear cd
      have hS : St _ _ [.blk b (scn s j fa fr)] w := st.dr
      refine pm hS ?_
      refine pnk hS ?_
      refine pf0 hS underlying178 sizeOf9 ?_
      refine pld hS 0 isAgg9 ?_
      iterate 2 refine pm hS ?_
      refine pnk hS ?_
      refine pfz hS 1 underlying178 sizeOf3 ?_
      refine pld hS 0 isAgg3 ?_
      refine vp_take rfl rfl rfl hS (fun w st => y_sls (i := _) (j := _) rfl rfl rfl underlying9 rfl rfl (by omega) (by omega)) ?_
      refine pm hS ?_
      refine vp_take rfl rfl rfl hS (fun w st => y_cvi rfl underlying2 underlying182 (IntWalk.i64_in _ ⟨by omega, by omega⟩ : _ = (n : Int))) ?_
      refine pm hS ?_
      refine vp_take rfl rfl rfl hS (fun w st => y_bld (.agg #[_, _, _, _]) [(0, _), (1, _), (2, _), (3, _)] rfl (fun w => by simp [Instr.build, go_sem] <;> repeat' constructor)) ?_
      refine vp_do rfl (e_sts (vs := [_, _, _, _]) st 0 rfl rfl rfl rfl rfl sizeOf118 rfl rfl (by (right; assumption)) ?_)
      intro w st; dsimp only [setNth, wr] at st
      refine vp_next st.dr ?_; intro hS
      refine vp_end (vq_then (vk1 2 (vc_ret ?_)))
      refine vq_ret1 st (.inl rfl) results200 (by exact .cell 0 rfl rfl isAgg118 sizeOf118) ?_
      refine ⟨_, rfl, ?_⟩
      have hlen : (List.take (j - i) (List.drop i s)).length = j - i := by simp; omega
      have hpos : i < j := by
       rcases Nat.lt_or_ge i j with h | h
       ·exact h
       ·exfalso
        rw [show j - i = 0 by omega, List.take_zero, drop_cons hi, List.takeWhile_cons, if_pos hd] at hT
        cases hT
      refine ⟨st.chg, ?_⟩
      rw [tokAt_num hi hc hd, hT, hlen, show i + (j - i) = j by omega]
      have hr := st.res (i := 1) rfl
      first
      | (have hNB : ¬((1 < j - i ∧ s.getD i 0 = 48) ∨ 9223372036854775807 < numVal (List.take (j - i) (List.drop i s))) := by
           rintro (⟨h1, h2⟩ | h2)
           · have h3 : ((s.getD i 0).toNat : Int) = 48 := by rw [h2]; rfl
             omega
           · omega
         rw [if_neg hNB]
         first
         | (rw [if_neg (by rintro ⟨h1, h2⟩; omega)]
            exact ⟨by rw [← hnn]; rfl, by dsimp only; rw [hlen, show i + (j - i) = j by omega]; exact hr⟩))
  ·intro hg71
   try simp only [dn] at hg71
   iterate 7 refine vsk ?_
   refine ypf ?_
   iterate 2 refine ym ?_
   refine ypf ?_
   refine ya ?_
   refine vc_end (vq_then (vk5 0 2 3 4 63 ?_))
   refine vc_ifs rfl ?_ ?_
   ·intro hc63
    try simp only [dn] at hc63
    refine vc_seq (vc_region ?_)
    iterate 2 refine ym ?_
    refine vc_e (e_call [_, _, _] rfl rfl call229 rfl (wrong_any b s _ _ _ _ _ _ (st.res (i := 1) rfl)) ?_)
    rintro _ w ⟨rfl, cw, hw⟩
    replace st := st.turn (i := 1) (r' := .blk b _) rfl rfl rfl cw (.inl (by simp)) hw
    dsimp only [setNth] at st
    refine vc_e (e_sts (vs := [_, _, _, _]) st 0 rfl rfl rfl rfl rfl sizeOf118 rfl rfl (by (right; assumption)) ?_)
    intro w st; dsimp only [setNth, wr] at st
    refine vc_end (vq_then (vk1 2 (vc_ret (vq_block_ret (vq_then_ret ?_)))))
    refine vq_ret1 st (.inl rfl) results200 (by exact .cell 0 rfl rfl isAgg118 sizeOf118) ?_
    refine ⟨_, rfl, ?_⟩
    have hlen : (List.take (j - i) (List.drop i s)).length = j - i := by simp; omega
    have hpos : i < j := by
     rcases Nat.lt_or_ge i j with h | h
     ·exact h
     ·exfalso
      rw [show j - i = 0 by omega, List.take_zero, drop_cons hi, List.takeWhile_cons, if_pos hd] at hT
      cases hT
    refine ⟨st.chg, ?_⟩
    rw [tokAt_num hi hc hd, hT, hlen, show i + (j - i) = j by omega]
    have hr := st.res (i := 1) rfl
    (rw [if_pos (.inr (of_decide_eq_true (by rw [← hgr]; assumption)))]; exact ⟨rfl, _, hr⟩)
   ·intro hc63
    try simp only [dn] at hc63
    have hnn := hn hc63
    have hM : n ≤ 9223372036854775807 := by rw [hc63] at hgr; have := of_decide_eq_false hgr.symm; omega
    refine vc_seq ?_
    refine vc_draw Tryz.mixed [(0, true), (1, true), (2, true), (3, true), (4, true), (5, true), (6, true), (7, true), (8, true), (9, true), (10, true), (11, true), (12, true), (13, true), (14, true), (15, true), (16, true), (17, true), (18, true), (19, true), (20, false), (21, true), (22, true)] (fun w => St _ _ _ w) st (by kernel_rfl) (by repeat (first | exact okQ_body | refine okQ_then ?_ | refine okQ_block ?_)) rfl (by kernel_rfl) ?_
    intro w cd; replace st := st.call0 cd; clear cd
    have hS := st
    refine pm hS ?_
    refine pnk hS ?_
    refine pfz hS 1 underlying178 sizeOf3 ?_
    refine pld hS 1 isAgg3 ?_
    refine pm hS ?_
    refine pnk hS ?_
    refine pf0 hS underlying178 sizeOf9 ?_
    refine pld hS 1 isAgg9 ?_
    refine vp_take rfl rfl rfl hS (fun w st => y_lens rfl underlying9) ?_
    refine vp_take rfl rfl rfl hS (fun w st => y_lss rfl rfl) ?_
    refine vp_part rfl rfl rfl hS rfl ?_ ?_
    ·intro hg97
     try simp only [dn] at hg97
     refine pm hS ?_
     refine pnk hS ?_
     refine pf0 hS underlying178 sizeOf9 ?_
     refine pld hS 1 isAgg9 ?_
     refine pm hS ?_
     refine pnk hS ?_
     refine pfz hS 1 underlying178 sizeOf3 ?_
     refine pld hS 1 isAgg3 ?_
     refine vp_take rfl rfl rfl hS (fun w st => y_ixs (k := _) rfl rfl underlying9 rfl (by omega)) ?_
     refine vp_do rfl (e_call [_] rfl rfl call115 rfl (letter_any _ _) ?_)
     rintro _ _ ⟨rfl, rfl⟩
     refine vp_next (by exact st) ?_; intro hS
     refine vp_take rfl rfl rfl hS (fun w st => y_pickt rfl rfl) ?_
     refine vp_take rfl rfl rfl hS (fun w st => y_as rfl) ?_
     refine vp_end (vq_then (vk5 0 2 3 4 86 ?_))
     refine vc_ifs rfl ?_ ?_
     ·intro hc86
      try simp only [dn] at hc86
      refine vc_seq (vc_region ?_)
      iterate 2 refine ym ?_
      refine ynk ?_
      refine yfz 1 underlying178 sizeOf3 ?_
      refine yl st 1 isAgg3 ?_
      refine vc_e (e_call [_, _, _] rfl rfl call229 rfl (wrong_any b s _ _ _ _ _ _ (st.res (i := 1) rfl)) ?_)
      rintro _ w ⟨rfl, cw, hw⟩
      replace st := st.turn (i := 1) (r' := .blk b _) rfl rfl rfl cw (.inl (by simp)) hw
      dsimp only [setNth] at st
      refine vc_e (e_sts (vs := [_, _, _, _]) st 0 rfl rfl rfl rfl rfl sizeOf118 rfl rfl (by (right; assumption)) ?_)
      intro w st; dsimp only [setNth, wr] at st
      refine vc_end (vq_then (vk1 2 (vc_ret (vq_block_ret (vq_then_ret ?_)))))
      refine vq_ret1 st (.inl rfl) results200 (by exact .cell 0 rfl rfl isAgg118 sizeOf118) ?_
      refine ⟨_, rfl, ?_⟩
      have hlen : (List.take (j - i) (List.drop i s)).length = j - i := by simp; omega
      have hpos : i < j := by
       rcases Nat.lt_or_ge i j with h | h
       ·exact h
       ·exfalso
        rw [show j - i = 0 by omega, List.take_zero, drop_cons hi, List.takeWhile_cons, if_pos hd] at hT
        cases hT
      refine ⟨st.chg, ?_⟩
      rw [tokAt_num hi hc hd, hT, hlen, show i + (j - i) = j by omega]
      have hr := st.res (i := 1) rfl
      first
      | (have hNB : ¬((1 < j - i ∧ s.getD i 0 = 48) ∨ 9223372036854775807 < numVal (List.take (j - i) (List.drop i s))) := by
           rintro (⟨h1, h2⟩ | h2)
           · have h3 : ((s.getD i 0).toNat : Int) = 48 := by rw [h2]; rfl
             omega
           · omega
         rw [if_neg hNB]
         (rw [if_pos ⟨by omega, by assumption⟩]; exact ⟨rfl, _, hr⟩))
     ·intro hc86
      try simp only [dn] at hc86
      refine vc_code_skip (vq_block (vq_then (vk4 0 2 3 4 (vc_seq ?_))))
      refine vc_draw Tryz.mixed [(0, true), (1, true), (2, true), (3, true), (4, true), (5, true), (6, true), (7, true), (8, true), (9, true), (10, true), (11, true), (12, true), (13, true), (14, false)] (fun w => St _ _ [.blk b (scn s j fa fr)] w) st.dr (by kernel_rfl) (by repeat (first | exact okQ_body | refine okQ_then ?_ | refine okQ_block ?_)) rfl (by kernel_rfl) ?_
      intro w cd; replace st := st.call0 cd; clear cd
      have hS : St _ _ [.blk b (scn s j fa fr)] w := st.dr
      refine pm hS ?_
      refine pnk hS ?_
      refine pf0 hS underlying178 sizeOf9 ?_
      refine pld hS 0 isAgg9 ?_
      iterate 2 refine pm hS ?_
      refine pnk hS ?_
      refine pfz hS 1 underlying178 sizeOf3 ?_
      refine pld hS 0 isAgg3 ?_
      refine vp_take rfl rfl rfl hS (fun w st => y_sls (i := _) (j := _) rfl rfl rfl underlying9 rfl rfl (by omega) (by omega)) ?_
      refine pm hS ?_
      refine vp_take rfl rfl rfl hS (fun w st => y_cvi rfl underlying2 underlying182 (IntWalk.i64_in _ ⟨by omega, by omega⟩ : _ = (n : Int))) ?_
      refine pm hS ?_
      refine vp_take rfl rfl rfl hS (fun w st => y_bld (.agg #[_, _, _, _]) [(0, _), (1, _), (2, _), (3, _)] rfl (fun w => by simp [Instr.build, go_sem] <;> repeat' constructor)) ?_
      refine vp_do rfl (e_sts (vs := [_, _, _, _]) st 0 rfl rfl rfl rfl rfl sizeOf118 rfl rfl (by (right; assumption)) ?_)
      intro w st; dsimp only [setNth, wr] at st
      refine vp_next st.dr ?_; intro hS
      refine vp_end (vq_then (vk1 2 (vc_ret ?_)))
      refine vq_ret1 st (.inl rfl) results200 (by exact .cell 0 rfl rfl isAgg118 sizeOf118) ?_
      refine ⟨_, rfl, ?_⟩
      have hlen : (List.take (j - i) (List.drop i s)).length = j - i := by simp; omega
      have hpos : i < j := by
       rcases Nat.lt_or_ge i j with h | h
       ·exact h
       ·exfalso
        rw [show j - i = 0 by omega, List.take_zero, drop_cons hi, List.takeWhile_cons, if_pos hd] at hT
        cases hT
      refine ⟨st.chg, ?_⟩
      rw [tokAt_num hi hc hd, hT, hlen, show i + (j - i) = j by omega]
      have hr := st.res (i := 1) rfl
      first
      | (have hNB : ¬((1 < j - i ∧ s.getD i 0 = 48) ∨ 9223372036854775807 < numVal (List.take (j - i) (List.drop i s))) := by
           rintro (⟨h1, h2⟩ | h2)
           · have h3 : ((s.getD i 0).toNat : Int) = 48 := by rw [h2]; rfl
             omega
           · omega
         rw [if_neg hNB]
         first
         | (rw [if_neg (by rintro ⟨h1, h2⟩; omega)]
            exact ⟨by rw [← hnn]; rfl, by dsimp only; rw [hlen, show i + (j - i) = j by omega]; exact hr⟩))
    ·intro hg97
     try simp only [dn] at hg97
     iterate 9 refine vp_skip rfl rfl rfl hS ?_
     refine vp_do rfl (e_skip rfl rfl (vp_next hS (fun hS => ?_)))
     refine vp_take rfl rfl rfl hS (fun w st => y_pickf rfl rfl) ?_
     refine vp_take rfl rfl rfl hS (fun w st => y_as rfl) ?_
     refine vp_end (vq_then (vk5 0 2 3 4 86 ?_))
     refine vc_iff rfl ?_
     refine vc_code_skip (vq_block (vq_then (vk4 0 2 3 4 (vc_seq ?_))))
     refine vc_draw Tryz.mixed [(0, true), (1, true), (2, true), (3, true), (4, true), (5, true), (6, true), (7, true), (8, true), (9, true), (10, true), (11, true), (12, true), (13, true), (14, false)] (fun w => St _ _ [.blk b (scn s j fa fr)] w) st.dr (by kernel_rfl) (by repeat (first | exact okQ_body | refine okQ_then ?_ | refine okQ_block ?_)) rfl (by kernel_rfl) ?_
     intro w cd; replace st := st.call0 cd; clear cd
     have hS : St _ _ [.blk b (scn s j fa fr)] w := st.dr
     refine pm hS ?_
     refine pnk hS ?_
     refine pf0 hS underlying178 sizeOf9 ?_
     refine pld hS 0 isAgg9 ?_
     iterate 2 refine pm hS ?_
     refine pnk hS ?_
     refine pfz hS 1 underlying178 sizeOf3 ?_
     refine pld hS 0 isAgg3 ?_
     refine vp_take rfl rfl rfl hS (fun w st => y_sls (i := _) (j := _) rfl rfl rfl underlying9 rfl rfl (by omega) (by omega)) ?_
     refine pm hS ?_
     refine vp_take rfl rfl rfl hS (fun w st => y_cvi rfl underlying2 underlying182 (IntWalk.i64_in _ ⟨by omega, by omega⟩ : _ = (n : Int))) ?_
     refine pm hS ?_
     refine vp_take rfl rfl rfl hS (fun w st => y_bld (.agg #[_, _, _, _]) [(0, _), (1, _), (2, _), (3, _)] rfl (fun w => by simp [Instr.build, go_sem] <;> repeat' constructor)) ?_
     refine vp_do rfl (e_sts (vs := [_, _, _, _]) st 0 rfl rfl rfl rfl rfl sizeOf118 rfl rfl (by (right; assumption)) ?_)
     intro w st; dsimp only [setNth, wr] at st
     refine vp_next st.dr ?_; intro hS
     refine vp_end (vq_then (vk1 2 (vc_ret ?_)))
     refine vq_ret1 st (.inl rfl) results200 (by exact .cell 0 rfl rfl isAgg118 sizeOf118) ?_
     refine ⟨_, rfl, ?_⟩
     have hlen : (List.take (j - i) (List.drop i s)).length = j - i := by simp; omega
     have hpos : i < j := by
      rcases Nat.lt_or_ge i j with h | h
      ·exact h
      ·exfalso
       rw [show j - i = 0 by omega, List.take_zero, drop_cons hi, List.takeWhile_cons, if_pos hd] at hT
       cases hT
     refine ⟨st.chg, ?_⟩
     rw [tokAt_num hi hc hd, hT, hlen, show i + (j - i) = j by omega]
     have hr := st.res (i := 1) rfl
     first
     | (have hNB : ¬((1 < j - i ∧ s.getD i 0 = 48) ∨ 9223372036854775807 < numVal (List.take (j - i) (List.drop i s))) := by
          rintro (⟨h1, h2⟩ | h2)
          · have h3 : ((s.getD i 0).toNat : Int) = 48 := by rw [h2]; rfl
            omega
          · omega
        rw [if_neg hNB]
        first
        | (rw [if_neg (by rintro ⟨h1, h2⟩; omega)]
           exact ⟨by rw [← hnn]; rfl, by dsimp only; rw [hlen, show i + (j - i) = j by omega]; exact hr⟩))

end Go.Proofs.YtnmhlpnapgojjaaGreatDoor.Pq


namespace Go.Proofs.YtnmhlpnapgojjaaGreatDoor.Pq
open Go.RowKit Sx LexS _root_.Go.Proofs.Tryz
abbrev tok4 (k : Int) (t : List UInt8) (wd a : Int) : List Value := [.int .u8 k, str t, .int .i64 wd, .int .i64 a]
/-- the same, its parts named -/
def RdFlat (s : List UInt8) (i : Nat) (fa fr : Int) (res : TokR) (k : Int) (t : List UInt8) (wd a j fa' fr' : Int) : Prop := match res with
 | .tok x => k = x.kind ∧ t = x.text ∧ wd = x.word ∧ a = x.at_ ∧ j = ((i + x.text.length : Nat) : Int) ∧ fa' = fa ∧ fr' = fr
 | .bad rule p => k = 0 ∧ t = [] ∧ wd = 0 ∧ a = 0 ∧ fa' = p ∧ fr' = rule
theorem rd_flat {b : Nat} {s : List UInt8} {i : Nat} {fa fr : Int} {res : TokR} {v : Value} {w' : World} (h : RdPost b s i fa fr res v w') :
    ∃ k t wd a j fa' fr', v = .agg (tok4 k t wd a).toArray ∧ w'.heap[b]? = some (scn s j fa' fr') ∧ RdFlat s i fa fr res k t wd a j fa' fr' := by
 cases res with
 | tok x => exact ⟨_, _, _, _, _, _, _, h.1, h.2, rfl, rfl, rfl, rfl, rfl, rfl, rfl⟩
 | bad rule p => obtain ⟨h1, j, h2⟩ := h; exact ⟨0, [], 0, 0, j, _, _, h1, h2, rfl, rfl, rfl, rfl, rfl, rfl⟩
theorem bad_rule {r : List UInt8} {i rule p : Nat} (h : tokAt r i = .bad rule p) : 1 ≤ rule ∧ rule ≤ 4 := by
 simp only [tokAt] at h
 (repeat' split at h) <;> first | (simp at h; done) | (simp at h; omega)
/-- what 'next' leaves: the token, or none -/
def NxPost (b : Nat) (s : List UInt8) (i : Nat) (v : Value) (w' : World) : Prop :=
 if s.length ≤ i + skip (s.drop i) then v = .tuple #[.agg zeroL.toArray, .bool false] ∧ ∃ j : Int, w'.heap[b]? = some (scn s j 0 0)
 else match tokAt (s.drop (i + skip (s.drop i))) (i + skip (s.drop i)) with
  | .tok x => v = .tuple #[.agg (tokL x).toArray, .bool true] ∧ w'.heap[b]? = some (scn s ((i + skip (s.drop i) + x.text.length : Nat) : Int) 0 0)
  | .bad rule p => v = .tuple #[.agg zeroL.toArray, .bool false] ∧ ∃ j : Int, w'.heap[b]? = some (scn s j (p : Int) (rule : Int))

set_option maxHeartbeats 1000000 in
theorem next_any (b : Nat) (s : List UInt8) (i : Nat) (w : World) (hb : w.heap[b]? = some (scn s i 0 0)) (hi : i ≤ s.length) (hs : s.length ≤ 3000000) :
    Ret Tryz.prog 142 [.pointer (some ⟨b, 0, none⟩)] w fun v w' => Chg [b] w w' ∧ NxPost b s i v w' := by
 refine ret_of [_] func142 rfl ntmps142 rfl ?_
 have st := St.init w [b]
 have hle := skip_le (s.drop i)
 simp only [List.length_drop] at hle
 replace st := St.of1 [b] hb
 refine vc_seq (vc_region ?_)
 refine vc_e (e_al (l := [_, _, _, _]) st rfl rfl zeroValue118 rfl ?_)
 intro b2 w hb2 st
 refine ya ?_
 refine vc_end (vq_then (vk2 0 2 (vc_seq (vc_region ?_))))
 refine ym ?_
 refine vc_e (e_call [_] rfl rfl call197 rfl (over_any b s i _ _ _ (st.res (i := 1) rfl) hi hs) ?_)
 rintro _ w ⟨rfl, cw, hw⟩
 replace st := st.turn (i := 1) (r' := .blk b _) rfl rfl rfl cw (.inl (by simp)) hw
 dsimp only [setNth] at st
 have hi1 : i + skip (List.drop i s) ≤ s.length := by omega
 refine vc_end (vq_then (vk2 0 2 (vc_seq (vc_seq ?_))))
 refine vc_draw Tryz.mixed [(0, true), (1, true), (2, true), (3, true), (4, true), (5, true), (6, true), (7, true), (8, true), (9, true)] (fun w => St _ _ _ w) st (by kernel_rfl) (by repeat (first | exact okQ_body | refine okQ_then ?_ | refine okQ_block ?_)) rfl (by kernel_rfl) ?_
 intro w cd; replace st := st.call0 cd; clear cd
 have hS := st
 refine pm hS ?_
 refine pnk hS ?_
 refine pfz hS 1 underlying178 sizeOf3 ?_
 refine pld hS 1 isAgg3 ?_
 refine pm hS ?_
 refine pnk hS ?_
 refine pf0 hS underlying178 sizeOf9 ?_
 refine pld hS 1 isAgg9 ?_
 refine vp_take rfl rfl rfl hS (fun w st => y_lens rfl underlying9) ?_
 refine vp_take rfl rfl rfl hS (fun w st => y_geq rfl rfl) ?_
 refine vp_end (vq_then (vk3 0 2 19 ?_))
 refine vc_ifs rfl ?_ ?_
 ·intro hc19
  try simp only [dn] at hc19
  refine vc_seq (vc_region ?_)
  refine vy (y_bld (.agg #[_, _, _, _]) [] rfl (fun w => by simp [Instr.build, go_sem] <;> repeat' constructor)) ?_
  refine vc_e (e_sts (vs := [_, _, _, _]) st 0 rfl rfl rfl rfl rfl sizeOf118 rfl rfl (by (right; assumption)) ?_)
  intro w st; dsimp only [setNth, wr] at st
  refine ya ?_
  refine vc_end (vq_then (vk2 2 3 (vc_ret (vq_then_ret ?_))))
  refine vq_ret2 st (.inl rfl) results142 (by exact .cell 0 rfl rfl isAgg118 sizeOf118) (.tmp rfl) ?_
  refine ⟨_, rfl, ?_⟩
  refine ⟨st.chg, ?_⟩
  unfold NxPost
  rw [if_pos (by omega)]
  exact ⟨rfl, _, st.res (i := 1) rfl⟩
 ·intro hc19
  try simp only [dn] at hc19
  refine vc_code_skip (vq_then (vk2 0 2 (vc_seq (vc_region ?_))))
  refine ym ?_
  refine vy (y_mf [_] [] rfl rfl) ?_
  refine ym ?_
  refine vy (y_mf [_] [] rfl rfl) ?_
  refine ym ?_
  refine vy (y_mf [_] [] rfl rfl) ?_
  refine vy (y_bld (.agg #[_, _, _]) [(0, _), (1, _), (2, _)] rfl (fun w => by simp [Instr.build, go_sem] <;> repeat' constructor)) ?_
  refine vc_e (e_al (l := [_, _, _]) st rfl rfl zeroValue219 rfl ?_)
  intro b4 w hb4 st
  refine vc_e (e_sts (vs := [_, _, _]) st 0 rfl rfl rfl rfl rfl sizeOf219 rfl rfl (by (right; assumption)) ?_)
  intro w st; dsimp only [setNth, wr] at st
  refine vc_end (vq_then (vk3 0 2 4 (vc_seq (vc_region ?_))))
  refine ya ?_
  refine vc_end (vq_then (vk4 0 2 4 5 (vc_seq (vc_seq ?_))))
  refine vc_draw Tryz.mixed [(0, true), (1, true), (2, true), (3, true), (4, true), (5, true), (6, true), (7, true), (8, true), (9, true)] (fun w => St _ _ _ w) st (by kernel_rfl) (by repeat (first | exact okQ_body | refine okQ_then ?_ | refine okQ_block ?_)) rfl (by kernel_rfl) ?_
  intro w cd; replace st := st.call0 cd; clear cd
  have hS := st
  refine pm hS ?_
  refine pnk hS ?_
  refine pf0 hS underlying178 sizeOf9 ?_
  refine pld hS 2 isAgg9 ?_
  refine pm hS ?_
  refine pnk hS ?_
  refine pfz hS 1 underlying178 sizeOf3 ?_
  refine pld hS 2 isAgg3 ?_
  refine vp_take rfl rfl rfl hS (fun w st => y_ixs (k := _) rfl rfl underlying9 rfl (by omega)) ?_
  refine vp_take rfl rfl rfl hS (fun w st => y_as rfl) ?_
  refine vp_end (vq_then (vk5 0 2 4 5 6 (vc_block (vc_seq (vc_region ?_)))))
  refine ym ?_
  refine vc_e (e_call [_] rfl rfl call115 rfl (letter_any _ _) ?_)
  rintro _ _ ⟨rfl, rfl⟩
  refine ya ?_
  refine vc_end (vq_then (vk6 0 2 4 5 6 37 ?_))
  refine vc_ifs rfl ?_ ?_
  ·intro hc37
   try simp only [dn] at hc37
   refine vc_region ?_
   refine ya ?_
   refine vc_end (vq_block (vq_then (vk4 0 2 4 5 (vc_seq (vc_region ?_)))))
   refine ym ?_
   refine vy (y_iaa (k := 1) rfl rfl underlying219 sizeOf141 rfl (by omega)) ?_
   refine yl st 0 isAgg141 ?_
   refine vc_e (e_callv [] rfl rfl rfl call199 rfl (word_rd b s _ _ _ _ (st.res (i := 2) rfl) (by omega) hs (by assumption)) ?_)
   rintro _ w ⟨cw, hp⟩
   obtain ⟨k, t, wd, a, j, fa', fr', rfl, hw, hf⟩ := rd_flat hp
   replace st := st.turn (i := 2) (r' := .blk b _) rfl rfl rfl cw (.inl (by simp)) hw
   dsimp only [setNth] at st
   refine vc_e (e_al (l := [_, _, _, _]) st rfl rfl zeroValue118 rfl ?_)
   intro b7 w hb7 st
   refine vc_e (e_sts (vs := [_, _, _, _]) st 0 rfl rfl rfl rfl rfl sizeOf118 rfl rfl (by (right; assumption)) ?_)
   intro w st; dsimp only [setNth, wr] at st
   refine vc_end (vq_then (vk3 0 2 7 (vc_seq ?_)))
   refine vc_draw Tryz.mixed [(0, true), (1, true), (2, true), (3, true), (4, true), (5, true), (6, true), (7, false), (8, true)] (fun w => St _ _ [.blk b7 (.cells (tok4 k t wd a).toArray 118 (0, 0)), .blk b (scn s j fa' fr')] w) st.dr (by kernel_rfl) (by repeat (first | exact okQ_body | refine okQ_then ?_ | refine okQ_block ?_)) rfl (by kernel_rfl) ?_
   intro w cd; replace st := st.call0 cd; clear cd
   have hS : St _ _ [.blk b7 (.cells (tok4 k t wd a).toArray 118 (0, 0)), .blk b (scn s j fa' fr')] w := st.dr
   refine vp_take rfl rfl rfl hS (fun w st => y_lda (vs := [_, _, _, _]) st 0 rfl isAgg118 sizeOf118 rfl rfl) ?_
   refine pm hS ?_
   refine pnk hS ?_
   refine pfz hS 2 underlying178 sizeOf29 ?_
   refine vp_take rfl rfl rfl hS (fun w st => y_fa (k := 1) rfl underlying29 rfl rfl sizeOf3 rfl) ?_
   refine pld hS 1 isAgg3 ?_
   refine vp_take rfl rfl rfl hS (fun w st => y_eqi rfl rfl) ?_
   refine vp_do rfl (e_sts (vs := [_, _, _, _]) st 2 rfl rfl rfl rfl rfl sizeOf118 rfl rfl (by (right; assumption)) ?_)
   intro w st; dsimp only [setNth, wr] at st
   refine vp_next st.dr ?_; intro hS
   refine vp_take rfl rfl rfl hS (fun w st => y_as rfl) ?_
   refine vp_end (vq_then (vk2 2 3 (vc_ret ?_)))
   refine vq_ret2 st (.inl rfl) results142 (by exact .cell 2 rfl rfl isAgg118 sizeOf118) (.tmp rfl) ?_
   refine ⟨_, rfl, ?_⟩
   refine ⟨st.chg, ?_⟩
   unfold NxPost
   rw [if_neg (by omega)]
   have hr := st.res (i := 3) rfl
   cases hR : tokAt (List.drop (i + skip (List.drop i s)) s) (i + skip (List.drop i s)) with
   | tok x => rw [hR] at hf; obtain ⟨rfl, rfl, rfl, rfl, rfl, rfl, rfl⟩ := hf; exact ⟨rfl, hr⟩
   | bad rule p =>
    have hb' := bad_rule hR
    rw [hR] at hf; obtain ⟨rfl, rfl, rfl, rfl, rfl, rfl⟩ := hf
    refine ⟨?_, _, hr⟩
    rw [show (decide ((rule : Int) = 0)) = false from by simp; omega]
  ·intro hc37
   try simp only [dn] at hc37
   refine vc_seq (vc_region ?_)
   refine ym ?_
   refine vc_e (e_call [_] rfl rfl call113 rfl (digit_any _ _) ?_)
   rintro _ _ ⟨rfl, rfl⟩
   refine ya ?_
   refine vc_end (vq_then (vk5 0 2 4 5 40 ?_))
   refine vc_ifs rfl ?_ ?_
   ·intro hc40
    try simp only [dn] at hc40
    refine vc_region ?_
    refine ya ?_
    refine vc_end (vq_block (vq_then (vk4 0 2 4 5 (vc_seq (vc_region ?_)))))
    refine ym ?_
    refine vy (y_iaa (k := 2) rfl rfl underlying219 sizeOf141 rfl (by omega)) ?_
    refine yl st 0 isAgg141 ?_
    refine vc_e (e_callv [] rfl rfl rfl call200 rfl (number_rd b s _ _ _ _ (st.res (i := 2) rfl) (by omega) hs (by assumption) (by assumption)) ?_)
    rintro _ w ⟨cw, hp⟩
    obtain ⟨k, t, wd, a, j, fa', fr', rfl, hw, hf⟩ := rd_flat hp
    replace st := st.turn (i := 2) (r' := .blk b _) rfl rfl rfl cw (.inl (by simp)) hw
    dsimp only [setNth] at st
    refine vc_e (e_al (l := [_, _, _, _]) st rfl rfl zeroValue118 rfl ?_)
    intro b7 w hb7 st
    refine vc_e (e_sts (vs := [_, _, _, _]) st 0 rfl rfl rfl rfl rfl sizeOf118 rfl rfl (by (right; assumption)) ?_)
    intro w st; dsimp only [setNth, wr] at st
    refine vc_end (vq_then (vk3 0 2 7 (vc_seq ?_)))
    refine vc_draw Tryz.mixed [(0, true), (1, true), (2, true), (3, true), (4, true), (5, true), (6, true), (7, false), (8, true)] (fun w => St _ _ [.blk b7 (.cells (tok4 k t wd a).toArray 118 (0, 0)), .blk b (scn s j fa' fr')] w) st.dr (by kernel_rfl) (by repeat (first | exact okQ_body | refine okQ_then ?_ | refine okQ_block ?_)) rfl (by kernel_rfl) ?_
    intro w cd; replace st := st.call0 cd; clear cd
    have hS : St _ _ [.blk b7 (.cells (tok4 k t wd a).toArray 118 (0, 0)), .blk b (scn s j fa' fr')] w := st.dr
    refine vp_take rfl rfl rfl hS (fun w st => y_lda (vs := [_, _, _, _]) st 0 rfl isAgg118 sizeOf118 rfl rfl) ?_
    refine pm hS ?_
    refine pnk hS ?_
    refine pfz hS 2 underlying178 sizeOf29 ?_
    refine vp_take rfl rfl rfl hS (fun w st => y_fa (k := 1) rfl underlying29 rfl rfl sizeOf3 rfl) ?_
    refine pld hS 1 isAgg3 ?_
    refine vp_take rfl rfl rfl hS (fun w st => y_eqi rfl rfl) ?_
    refine vp_do rfl (e_sts (vs := [_, _, _, _]) st 2 rfl rfl rfl rfl rfl sizeOf118 rfl rfl (by (right; assumption)) ?_)
    intro w st; dsimp only [setNth, wr] at st
    refine vp_next st.dr ?_; intro hS
    refine vp_take rfl rfl rfl hS (fun w st => y_as rfl) ?_
    refine vp_end (vq_then (vk2 2 3 (vc_ret ?_)))
    refine vq_ret2 st (.inl rfl) results142 (by exact .cell 2 rfl rfl isAgg118 sizeOf118) (.tmp rfl) ?_
    refine ⟨_, rfl, ?_⟩
    refine ⟨st.chg, ?_⟩
    unfold NxPost
    rw [if_neg (by omega)]
    have hr := st.res (i := 3) rfl
    cases hR : tokAt (List.drop (i + skip (List.drop i s)) s) (i + skip (List.drop i s)) with
    | tok x => rw [hR] at hf; obtain ⟨rfl, rfl, rfl, rfl, rfl, rfl, rfl⟩ := hf; exact ⟨rfl, hr⟩
    | bad rule p =>
     have hb' := bad_rule hR
     rw [hR] at hf; obtain ⟨rfl, rfl, rfl, rfl, rfl, rfl⟩ := hf
     refine ⟨?_, _, hr⟩
     rw [show (decide ((rule : Int) = 0)) = false from by simp; omega]
   ·intro hc40
    try simp only [dn] at hc40
    refine vc_code_skip (vq_block (vq_then (vk4 0 2 4 5 (vc_seq (vc_region ?_)))))
    refine ym ?_
    refine vy (y_iaa (k := 0) rfl rfl underlying219 sizeOf141 rfl (by omega)) ?_
    refine yl st 0 isAgg141 ?_
    refine vc_e (e_callv [] rfl rfl rfl call198 rfl (sign_rd b s _ _ _ _ (st.res (i := 2) rfl) (by omega) hs (by assumption) (by assumption)) ?_)
    rintro _ w ⟨cw, hp⟩
    obtain ⟨k, t, wd, a, j, fa', fr', rfl, hw, hf⟩ := rd_flat hp
    replace st := st.turn (i := 2) (r' := .blk b _) rfl rfl rfl cw (.inl (by simp)) hw
    dsimp only [setNth] at st
    refine vc_e (e_al (l := [_, _, _, _]) st rfl rfl zeroValue118 rfl ?_)
    intro b7 w hb7 st
    refine vc_e (e_sts (vs := [_, _, _, _]) st 0 rfl rfl rfl rfl rfl sizeOf118 rfl rfl (by (right; assumption)) ?_)
    intro w st; dsimp only [setNth, wr] at st
    refine vc_end (vq_then (vk3 0 2 7 (vc_seq ?_)))
    refine vc_draw Tryz.mixed [(0, true), (1, true), (2, true), (3, true), (4, true), (5, true), (6, true), (7, false), (8, true)] (fun w => St _ _ [.blk b7 (.cells (tok4 k t wd a).toArray 118 (0, 0)), .blk b (scn s j fa' fr')] w) st.dr (by kernel_rfl) (by repeat (first | exact okQ_body | refine okQ_then ?_ | refine okQ_block ?_)) rfl (by kernel_rfl) ?_
    intro w cd; replace st := st.call0 cd; clear cd
    have hS : St _ _ [.blk b7 (.cells (tok4 k t wd a).toArray 118 (0, 0)), .blk b (scn s j fa' fr')] w := st.dr
    refine vp_take rfl rfl rfl hS (fun w st => y_lda (vs := [_, _, _, _]) st 0 rfl isAgg118 sizeOf118 rfl rfl) ?_
    refine pm hS ?_
    refine pnk hS ?_
    refine pfz hS 2 underlying178 sizeOf29 ?_
    refine vp_take rfl rfl rfl hS (fun w st => y_fa (k := 1) rfl underlying29 rfl rfl sizeOf3 rfl) ?_
    refine pld hS 1 isAgg3 ?_
    refine vp_take rfl rfl rfl hS (fun w st => y_eqi rfl rfl) ?_
    refine vp_do rfl (e_sts (vs := [_, _, _, _]) st 2 rfl rfl rfl rfl rfl sizeOf118 rfl rfl (by (right; assumption)) ?_)
    intro w st; dsimp only [setNth, wr] at st
    refine vp_next st.dr ?_; intro hS
    refine vp_take rfl rfl rfl hS (fun w st => y_as rfl) ?_
    refine vp_end (vq_then (vk2 2 3 (vc_ret ?_)))
    refine vq_ret2 st (.inl rfl) results142 (by exact .cell 2 rfl rfl isAgg118 sizeOf118) (.tmp rfl) ?_
    refine ⟨_, rfl, ?_⟩
    refine ⟨st.chg, ?_⟩
    unfold NxPost
    rw [if_neg (by omega)]
    have hr := st.res (i := 3) rfl
    cases hR : tokAt (List.drop (i + skip (List.drop i s)) s) (i + skip (List.drop i s)) with
    | tok x => rw [hR] at hf; obtain ⟨rfl, rfl, rfl, rfl, rfl, rfl, rfl⟩ := hf; exact ⟨rfl, hr⟩
    | bad rule p =>
     have hb' := bad_rule hR
     rw [hR] at hf; obtain ⟨rfl, rfl, rfl, rfl, rfl, rfl⟩ := hf
     refine ⟨?_, _, hr⟩
     rw [show (decide ((rule : Int) = 0)) = false from by simp; omega]

end Go.Proofs.YtnmhlpnapgojjaaGreatDoor.Pq


namespace Go.Proofs.YtnmhlpnapgojjaaGreatDoor.Pq
open Go.RowKit Sx LexS _root_.Go.Proofs.Tryz
theorem Tryz.info118 : Tryz.prog.info? 118 = some Tryz.t118 := by kernel_rfl
def toksL (l : List Tok) : List Value := l.flatMap tokL
theorem toksL_snoc (l : List Tok) (t : Tok) : toksL (l ++ [t]) = toksL l ++ tokL t := by simp [toksL]
def NxRel (s : List UInt8) (i : Nat) (k : Int) (t : List UInt8) (wd a : Int) (ok : Bool) (j fa fr : Int) : Prop :=
 (ok = true ∧ ∃ x : Tok, i + skip (s.drop i) < s.length ∧ tokAt (s.drop (i + skip (s.drop i))) (i + skip (s.drop i)) = .tok x ∧ k = x.kind ∧ t = x.text ∧ wd = x.word ∧ a = x.at_ ∧ j = ((i + skip (s.drop i) + x.text.length : Nat) : Int) ∧ fa = 0 ∧ fr = 0) ∨
 (ok = false ∧ s.length ≤ i + skip (s.drop i) ∧ fa = 0 ∧ fr = 0) ∨
 (ok = false ∧ ∃ rule p : Nat, i + skip (s.drop i) < s.length ∧ tokAt (s.drop (i + skip (s.drop i))) (i + skip (s.drop i)) = .bad rule p ∧ fa = p ∧ fr = rule)
theorem nx_flat {b : Nat} {s : List UInt8} {i : Nat} {v : Value} {w' : World} (h : NxPost b s i v w') :
    ∃ k t wd a ok j fa fr, v = .tuple [.agg (tok4 k t wd a).toArray, .bool ok].toArray ∧ w'.heap[b]? = some (scn s j fa fr) ∧ NxRel s i k t wd a ok j fa fr := by
 unfold NxPost at h
 split at h
 ·rename_i hle
  obtain ⟨h1, j, h2⟩ := h
  exact ⟨0, [], 0, 0, false, j, 0, 0, h1, h2, .inr (.inl ⟨rfl, hle, rfl, rfl⟩)⟩
 ·rename_i hlt
  split at h
  ·rename_i x hx
   obtain ⟨h1, h2⟩ := h
   exact ⟨_, _, _, _, true, _, 0, 0, h1, h2, .inl ⟨rfl, x, by omega, hx, rfl, rfl, rfl, rfl, rfl, rfl, rfl⟩⟩
  ·rename_i rule p hx
   obtain ⟨h1, j, h2⟩ := h
   exact ⟨0, [], 0, 0, false, j, _, _, h1, h2, .inr (.inr ⟨rfl, rule, p, by omega, hx, rfl, rfl⟩)⟩
/-- what 'Scan' hands back -/
def ScanPost (s : List UInt8) (w : World) (v : Value) (w' : World) : Prop :=
 Chg [] w w' ∧ ∃ oa cap, v = .tuple [.slice oa (scanRes s).1.length cap, .int .i64 ((scanRes s).2.1 : Int), .agg [.int .i64 ((scanRes s).2.2.1 : Int), .int .i64 ((scanRes s).2.2.2 : Int)].toArray].toArray ∧
  w'.ownsRow w.heap.size 118 4 (.slice oa (scanRes s).1.length cap) (scanRes s).1.length (toksL (scanRes s).1)
set_option maxHeartbeats 1000000 in
theorem scan_any (s : List UInt8) (w : World) : Ret Tryz.prog 75 [str s] w (ScanPost s w) := by
 refine ret_of [_] func75 rfl ntmps75 rfl ?_
 have st := St.init w []
 refine vc_seq (vc_region ?_)
 iterate 2 refine ya ?_
 refine vc_e (e_al (l := [_, _]) st rfl rfl zeroValue29 rfl ?_)
 intro b4 w hb4 st
 refine vc_end (vq_then (vk2 0 4 (vc_seq (vc_seq (vc_region ?_)))))
 refine ym ?_
 refine vy (y_lens rfl underlying9) ?_
 refine vy (y_gtr rfl rfl) ?_
 refine vc_end (vq_then (vk3 0 4 11 ?_))
 refine vc_ifs rfl ?_ ?_
 ·intro hc11
  try simp only [dn] at hc11
  refine vc_seq (vc_region ?_)
  refine vy (y_bld (.agg #[_, _]) [] rfl (fun w => by simp [Instr.build, go_sem] <;> repeat' constructor)) ?_
  iterate 2 refine ya ?_
  refine vc_e (e_sts (vs := [_, _]) st 0 rfl rfl rfl rfl rfl sizeOf29 rfl rfl (by (right; assumption)) ?_)
  intro w st; dsimp only [setNth, wr] at st
  refine vc_end (vq_then (vk3 2 3 4 (vc_ret (vq_then_ret ?_))))
  refine vq_ret3 st (.inl rfl) results75 (.tmp rfl) (.tmp rfl) (by exact .cell 0 rfl rfl isAgg29 sizeOf29) ?_
  refine ⟨_, rfl, ?_⟩
  have e : scanRes s = ([], 4, 0, 0) := by unfold scanRes; rw [if_pos (by omega)]
  refine ⟨st.chg, none, 0, ?_, ?_⟩
  ·rw [e]; rfl
  ·rw [e]; exact World.ownsRow_nil _ _ _ _
 ·intro hc11
  try simp only [dn] at hc11
  replace st := st.ownNil 118 4
  refine vc_code_skip (vq_then (vk2 0 4 (vc_seq (vc_region ?_))))
  refine ym ?_
  refine vy (y_bld (.agg #[_, _, _, _]) [(0, _)] rfl (fun w => by simp [Instr.build, go_sem] <;> repeat' constructor)) ?_
  refine vc_e (e_bx (l := [_, _, _, _]) st rfl rfl rfl rfl ?_)
  intro b15 w hb15 st
  refine ya ?_
  refine vc_end (vq_then (vk2 4 5 (vc_seq (vc_region ?_))))
  refine ya ?_
  refine vc_end (vq_then (vk3 4 5 6 (vc_seq (vc_block ?_))))
  refine vc_loop (w0 := _) (M := _) (fun (x : List Tok × Nat × Option Addr × Nat) => [(4, .pointer (some ⟨b4, 0, none⟩)), (5, .pointer (some ⟨b15, 0, none⟩)), (6, .slice x.2.2.1 x.1.length x.2.2.2)]) (fun x => [.blk b15 (scn s x.2.1 0 0), .own (.slice x.2.2.1 x.1.length x.2.2.2) 118 4 x.1.length (toksL x.1), .blk b4 (.cells [.int .i64 0, .int .i64 0].toArray 29 (0, 0))]) (fun x _ => x.2.1 ≤ s.length ∧ x.1.length ≤ x.2.1 ∧ (front s).1 = x.1 ++ (scanA (s.drop x.2.1) x.2.1).1 ∧ (front s).2 = (scanA (s.drop x.2.1) x.2.1).2) (fun x => s.length - x.2.1) ([], 0, none, 0) ⟨rfl, rfl, rfl, trivial⟩ st ⟨by simp, by simp, by simp [front_eq], by simp [front_eq]⟩ ?_
  rintro ⟨l, i, oa, cap⟩ w ⟨hi, hli, hf1, hf2⟩ st
  dsimp only at *
  refine vc_block (vc_seq (vc_region ?_))
  refine ym ?_
  refine vc_e (e_call [_] rfl rfl call142 rfl (next_any b15 s i _ (st.res (i := 0) rfl) hi (by omega)) ?_)
  rintro _ w ⟨cw, hp⟩
  obtain ⟨k, t, wd, a, ok, j, fa, fr, rfl, hw, hrel⟩ := nx_flat hp
  replace st := st.turn (i := 0) (r' := .blk b15 _) rfl rfl rfl cw (.inr (by assumption)) hw
  dsimp only [setNth] at st
  refine ym ?_
  iterate 2 refine vy (y_ext rfl rfl) ?_
  refine vc_e (e_al (l := [_, _, _, _]) st rfl rfl zeroValue118 rfl ?_)
  intro b7 w hb7 st
  refine vc_e (e_sts (vs := [_, _, _, _]) st 0 rfl rfl rfl rfl rfl sizeOf118 rfl rfl (by (right; assumption)) ?_)
  intro w st; dsimp only [setNth, wr] at st
  refine ya ?_
  refine vc_end (vq_then (vk5 4 5 6 7 8 (vc_seq (vc_seq (vc_region ?_)))))
  refine ym ?_
  refine vy (y_not rfl) ?_
  refine vc_end (vq_then (vk5 4 5 6 7 22 ?_))
  refine vc_ifs rfl ?_ ?_
  ·intro hc22
   try simp only [dn] at hc22
   refine vc_exit (vq_then_exit (vq_block_other rfl (vq_then_exit (vq_block_exit (vq_then (vk3 4 5 6 (vc_seq (vc_seq (vc_region ?_)))))))))
   refine ym ?_
   refine ynk ?_
   refine yfz 2 underlying178 sizeOf29 ?_
   refine vy (y_fa (k := 1) rfl underlying29 rfl rfl sizeOf3 rfl) ?_
   refine yl st 1 isAgg3 ?_
   refine vy (y_nei rfl rfl) ?_
   refine vc_end (vq_then (vk4 4 5 6 32 ?_))
   refine vc_ifs rfl ?_ ?_
   ·intro hc32
    try simp only [dn] at hc32
    refine vc_seq ?_
    refine vc_draw Tryz.mixed [(0, true), (1, true), (2, true), (3, true), (4, true), (5, true), (6, false)] (fun w => St _ _ [.blk b15 (scn s j fa fr)] w) st.dr (by kernel_rfl) (by repeat (first | exact okQ_body | refine okQ_then ?_ | refine okQ_block ?_)) rfl (by kernel_rfl) ?_
    intro w cd; replace st := st.call0 cd; clear cd
    have hS : St _ _ [.blk b15 (scn s j fa fr)] w := st.dr
    refine pm hS ?_
    refine pnk hS ?_
    refine pfz hS 2 underlying178 sizeOf29 ?_
    refine vp_take rfl rfl rfl hS (fun w st => y_lda (vs := [_, _]) st 0 rfl isAgg29 sizeOf29 rfl rfl) ?_
    iterate 2 refine vp_take rfl rfl rfl hS (fun w st => y_as rfl) ?_
    refine vp_do rfl (e_sts (vs := [_, _]) st 3 rfl rfl rfl rfl rfl sizeOf29 rfl rfl (by (right; assumption)) ?_)
    intro w st; dsimp only [setNth, wr] at st
    refine vp_next st.dr ?_; intro hS
    refine vp_end (vq_then (vk3 2 3 4 (vc_ret (vq_then_ret ?_))))
    refine vq_ret3 st (.inl rfl) results75 (.tmp rfl) (.tmp rfl) (by exact .cell 3 rfl rfl isAgg29 sizeOf29) ?_
    refine ⟨_, rfl, ?_⟩
    rcases hrel with ⟨h, _⟩ | ⟨_, _, _, h⟩ | ⟨_, rule, p, hlt, hx, rfl, rfl⟩
    ·simp [h] at hc22
    ·exact absurd h hc32
    ·have hsc := scanA_bad (r := s.drop i) (i := i) (by simp; omega) (by rw [List.drop_drop]; exact hx)
     have e : scanRes s = ([], 20, p, rule) := by unfold scanRes; rw [if_neg (by omega), hf2, hsc]
     refine ⟨st.chg, none, 0, ?_, ?_⟩
     ·rw [e]; rfl
     ·rw [e]; exact World.ownsRow_nil _ _ _ _
   ·intro hc32
    try simp only [dn] at hc32
    refine vc_code_skip (vq_then (vk2 4 6 (vc_seq (vc_region ?_))))
    refine ym ?_
    refine vy (y_bld (.agg #[_, _]) [] rfl (fun w => by simp [Instr.build, go_sem] <;> repeat' constructor)) ?_
    iterate 2 refine ya ?_
    refine vc_e (e_sts (vs := [_, _]) st 3 rfl rfl rfl rfl rfl sizeOf29 rfl rfl (by (right; assumption)) ?_)
    intro w st; dsimp only [setNth, wr] at st
    refine vc_end (vq_then (vk3 2 3 4 (vc_ret ?_)))
    refine vq_ret3 st (.inl rfl) results75 (.tmp rfl) (.tmp rfl) (by exact .cell 3 rfl rfl isAgg29 sizeOf29) ?_
    refine ⟨_, rfl, ?_⟩
    rcases hrel with ⟨h, _⟩ | ⟨_, hle, _, h⟩ | ⟨_, rule, p, hlt, hx, rfl, rfl⟩
    ·simp [h] at hc22
    ·have hsc := scanA_end (r := s.drop i) (i := i) (by simp; omega)
     have e : scanRes s = (l, 0, 0, 0) := by unfold scanRes; rw [if_neg (by omega), hf2, hsc, hf1, hsc]; simp
     refine ⟨st.chg, oa, cap, ?_, ?_⟩
     ·rw [e]; rfl
     ·rw [e]; exact st.res (i := 2) rfl
    ·have := bad_rule hx; omega
  ·intro hc22
   try simp only [dn] at hc22
   refine vc_code_skip (vq_then (vk4 4 5 6 7 (vc_region ?_)))
   refine ym ?_
   refine yla st 0 [_, _, _, _] isAgg118 sizeOf118 ?_
   refine vc_e (e_bs1 (l := [_, _, _, _]) st rfl rfl rfl rfl underlying89 sizeOf118 rfl rfl rfl zeroValue118 ?_)
   intro b25 w hb25 st
   refine vc_e (e_app (bytes := 40) st 3 0 rfl rfl rfl rfl rfl rfl underlying89 Tryz.info118 rfl rfl rfl rfl rfl (by simp) rfl rfl (by unfold maxLen; omega) (by omega) ?_)
   intro oa26 cap26 w st; dsimp only [setNth] at st
   refine ya ?_
   refine vc_end (vq_block ?_)
   rcases hrel with ⟨_, x, hlt, hx, rfl, rfl, rfl, rfl, rfl, rfl, rfl⟩ | ⟨h, _⟩ | ⟨h, _⟩
   ·have hx1 := tok_len hx
    have hxl : x.text.length ≤ s.length - (i + skip (List.drop i s)) := by have h := congrArg List.length hx1.2.1; simp at h; omega
    have hsc := scanA_tok (r := s.drop i) (i := i) (by simp; omega) (by rw [List.drop_drop]; exact hx)
    rw [List.drop_drop, ← Nat.add_assoc] at hsc
    refine vq_again (l ++ [x], i + skip (List.drop i s) + x.text.length, oa26, cap26) ⟨rfl, rfl, by simp only [List.length_append, List.length_cons, List.length_nil]; rfl, trivial⟩ ?_ ⟨by dsimp only; omega, by simp; omega, ?_, ?_⟩ (by dsimp only; omega)
    ·simp only [List.length_append, List.length_cons, List.length_nil, toksL_snoc]
     exact st.dr
    ·rw [hf1, hsc]; simp
    ·rw [hf2, hsc]
   ·simp [h] at hc22
   ·simp [h] at hc22

end Go.Proofs.YtnmhlpnapgojjaaGreatDoor.Pq


/- The tokens of a text: how many, and of what kinds. -/
namespace ParS
open Sx LexS
theorem numV_le {l : List UInt8} {n : Nat} (h : numV l = some n) : n ≤ 9223372036854775807 := by
  unfold numV at h
  split at h
  · cases h
  · rename_i hc
    cases h
    rw [not_or, not_or, not_or] at hc
    omega
theorem scan_ok : ∀ (T : List Tok) (r : List UInt8) (i : Nat) (f : Option (Nat × Nat)), scanA r i = (T, f) → T.length ≤ r.length ∧ ∀ t ∈ T, (t.kind = 1 → isName t.text = true) ∧ t.word ≤ 9223372036854775807 ∧ t.at_ ≤ i + r.length
  | [], r, i, f, h => ⟨Nat.zero_le _, by simp⟩
  | t :: T, r, i, f, h => by
    obtain ⟨h1, h2, h3⟩ := scan_inv h
    obtain ⟨h4, h5, h6⟩ := tok_len h2
    obtain ⟨h7, h8⟩ := scan_ok T _ _ _ h3
    rw [List.length_drop] at h7 h8
    have h9 : t.text.length ≤ r.length - skip r := by
      have := congrArg List.length h5
      rw [List.length_take, List.length_drop] at this
      omega
    refine ⟨by simp only [List.length_cons]; omega, fun x hx => ?_⟩
    rcases List.mem_cons.1 hx with rfl | hx
    · refine ⟨fun hk => ?_, ?_, by omega⟩
      · rcases tok_right h2 with h | h | h | h
        · exact h.2.1
        · omega
        · omega
        · omega
      · rcases tok_right h2 with h | h | h | h
        · omega
        · omega
        · exact numV_le h.2
        · omega
    · obtain ⟨a, b, c⟩ := h8 x hx
      exact ⟨a, b, by omega⟩
theorem front_ok {s : List UInt8} {T : List Tok} {f : Option (Nat × Nat)} (h : front s = (T, f)) : T.length ≤ s.length ∧ ∀ t ∈ T, (t.kind = 1 → isName t.text = true) ∧ t.word ≤ 9223372036854775807 ∧ t.at_ ≤ s.length := by
  rw [front_eq] at h
  have := scan_ok T s 0 f h
  simpa using this
end ParS


/- A function that defers a closure that recovers. -/
namespace Sx
open Go Go.RowKit
section
variable {P : Program} {n : Fr} {L : List Oper} {Q : Exit → Act → World → Prop} {kn : Kn} {w w0 : World} {M : List Nat} {hs : List Res} {rest : List Oper}
variable {d ty : Nat} {pos : String} {aft : Array Edge} {g : Option (Nat × Bool)}
variable {N : Act → World → Prop}
/-- where a callee's panic goes on, the frame known -/
abbrev PanK (n : Fr) (kn : Kn) (Q : Exit → Act → World → Prop) (v : Value) (w : World) : Prop := ∀ a : Act, K n kn a → Q (.panic (pch v)) a w
theorem e_callk {f : FuncId} {args : Array Operand} {tys : Array TypeId} (vals : List Value) {Φ Ψ : Value → World → Prop} (hw : gd L kn g = some true) (hd : okDst n (some d) = true)
    (hcall : ∀ (az : Array Value) w, (callFunc f az).run P w = .ok (.enter f az) w)
    (hv : args.toList.map (evO kn) = vals.map some)
    (c : RetP P f vals w Φ Ψ) (pan : ∀ v w', Ψ v w' → PanK n kn Q v w') (next : ∀ v w', Φ v w' → vN n N ((d, v) :: kn) w') :
    vS P n L Q ⟨some d, .call ⟨.value (.func f), args, tys⟩, ty, pos, aft, g⟩ N kn w := by
  intro a ha
  rw [if_pos (ha.gd hw)]
  refine .inl ?_
  unfold Oper.wp
  have hrun : (execOp a.eval ⟨some d, .call ⟨.value (.func f), args, tys⟩, ty, pos, aft, g⟩).run P w = .ok (.enter f vals.toArray) w := by
    have hargs := evs_map ha hv
    simp only [execOp, resolve, hargs, Act.eval]
    simp [Deferred.ofValue, invoke, hcall]
  rw [hrun]
  refine Calls.mono c ?_
  rintro e w' (⟨v, rfl, hv⟩ | ⟨v, rfl, hv⟩)
  · exact next v w' hv _ (ha.put hd v)
  · exact pan v w' hv a ha
/-- 'defer' of a closure -/
theorem e_deferV {x : Operand} {f : FuncId} {cap : List Value} {tys : Array TypeId} {m : Nat} {ds : List Deferred} (hn : n = (m, ds)) (hw : gd L kn g = some true)
    (hx : evO kn x = some (.func (.func f) #[] cap.toArray)) (next : vN (m, ⟨.fn (.func f) cap.toArray, #[]⟩ :: ds) N kn w) :
    vS P n L Q ⟨none, .defer ⟨.value x, #[], tys⟩, ty, pos, aft, g⟩ N kn w :=
  e_defer hn hw rfl (fun a ha => by
    simp only [execOp, resolve, ha.ev hx]
    simp [Deferred.ofValue]) next
theorem vqd_post {m : Nat} {fn : Func} {R : Ending → World → Prop} {e : Exit} {v : Value} (he : e = .ret ∨ e = .normal) (hr : ∀ a, K (m, []) kn a → (results fn a.tmps).run P w = .ok v w) (hR : R (.returned v) w) : vcQ (m, []) (bodyPostD P fn R) e kn w := by
  intro a ha
  have key : Leaves P fn a.tmps R a.defers .returning w := by rw [ha.defers]; exact ⟨v, hr a ha, hR⟩
  rcases he with rfl | rfl <;> exact key
theorem results3 {fn : Func} {r1 r2 r3 : ResultVar} {v1 v2 v3 : Value} {m : Nat} {ds : List Deferred} (st : St w0 M hs w) (hf : fn.results = #[r1, r2, r3]) (h1 : ResV P hs kn r1 v1) (h2 : ResV P hs kn r2 v2) (h3 : ResV P hs kn r3 v3) :
    ∀ a, K (m, ds) kn a → (results fn a.tmps).run P w = .ok (.tuple #[v1, v2, v3]) w := fun a ha => by
  simp [results_eq, hf, h1.run st ha, h2.run st ha, h3.run st ha]
theorem retd_of {m : Nat} {f : FuncId} {fn : Func} {c : Code} (vals : List Value) {Φ : Value → World → Prop} (hf : P.funcs[f]? = some fn) (hb : fn.body = some c) (hn : fn.ntmps = m) (hle : Nat.ble vals.length m = true)
    (h : vcC P (m, []) c (bodyPostD P fn fun e w' => ∃ v, e = .returned v ∧ Φ v w') (enumKn 0 vals) w) : Ret P f vals w Φ := vcd_enter hf hb hn hle h
/-- a panic's end, where a deferred closure recovers -/
theorem pan_leave {m : Nat} {fn : Func} {R : Ending → World → Prop} {f : FuncId} {cap : List Value} {v : Value} {Φ : World → Prop}
    (hcall : ∀ (az : Array Value) w, (callFunc f az).run P w = .ok (.enter f az) w)
    (h : DefCatch P f cap.toArray v w Φ) (hres : ∀ w', Φ w' → ∃ r, (∀ a, K (m, [⟨.fn (.func f) cap.toArray, #[]⟩]) kn a → (results fn a.tmps).run P w' = .ok r w') ∧ R (.returned r) w') :
    PanK (m, [⟨.fn (.func f) cap.toArray, #[]⟩]) kn (bodyPostD P fn R) v w := by
  intro a ha
  show Leaves P fn a.tmps R a.defers (.panicking (pch v)) w
  rw [ha.defers]
  refine leaves_cons (f := f) (args := cap.toArray) (by simp) (by simp [invoke, hcall]) (h.mono ?_)
  rintro e u' w' ⟨⟨x, rfl⟩, rfl, hΦ⟩
  obtain ⟨r, h1, h2⟩ := hres w' hΦ
  exact ⟨r, h1 a ha, h2⟩
theorem e_bxn (st : St w0 M hs w) {x : Operand} {T : Nat} {v : Value} {l : List Value} (hw : gd L kn g = some true) (hd : okDst n (some d) = true)
    (hx : evO kn x = some v) (hl : v.cells.toList = l)
    (next : ∀ b w', b = w.heap.size → w0.heap.size ≤ b → St w0 M (.blk b (.cells l.toArray T (0, 0)) :: hs) w' → vN n N ((d, .pointer (some ⟨b, 0, none⟩)) :: kn) w') : vS P n L Q (⟨some d, .box T x, ty, pos, aft, g⟩) N kn w :=
  e_new st (v := .pointer (some ⟨w.heap.size, 0, none⟩)) (l := l) (E := T) hw hd (fun a ha => by
    have : v.cells = l.toArray := by rw [← hl]
    simp only [execOp, ha.ev hx, Instr.box, ← this]
    rfl) (fun b w' e hb st' => by subst e; exact next _ w' rfl hb st')
theorem y_ta {x : Operand} {T U : Nat} {v : Value} {fs : Array Field} (hx : evO kn x = some (.iface T v)) (ht : P.underlying T = some (.struct fs)) : Y P n kn w ⟨some d, .typeAssert x U T false, ty, pos, aft, g⟩ v := fun a ha => by
  simp only [execOp, ha.ev hx]
  simp [Instr.typeAssert, run_underlying ht]
/-- a field that is a struct, of a struct that is a value -/
theorem y_fldA {T i off sz : Nat} {x : Operand} {cs vs : List Value} {fs : Array Field} {f : Field} (hx : evO kn x = some (.agg cs.toArray)) (ht : P.underlying T = some (.struct fs)) (hf : nth fs.toList i = some f) (ho : f.offset = off)
    (ha : ∀ w, (Go.isAgg f.type).run P w = .ok true w) (hs : ∀ w, (Go.sizeOf f.type).run P w = .ok sz w) (hv : takeN sz (dropN cs off) = some vs) : Y P n kn w ⟨some d, .field T x i, ty, pos, aft, g⟩ (.agg vs.toArray) := fun a hk => by
  subst ho
  rw [nth_eq] at hf
  have hf' : fs[i]? = some f := by simpa using hf
  simp only [execOp, hk.ev hx]
  simp [Instr.field, run_underlying ht, hf', asAgg, run_partA ha hs hv]
end
/-- a deferred closure's post does not look at the temporaries of a panic -/
theorem okQ_bodyS {P : Program} {fn : Func} {c0 : Frame} {cs cs' : List Frame} {R : Ending → FrameMode → World → Prop} : okQ (fun e a w => bodyPostS P fn c0 cs R e a cs' w) := fun c a a' w h hq => by
  obtain ⟨h1, h2⟩ := hq
  exact ⟨h ▸ h1, h2⟩
end Sx
namespace Sx
open Go Go.RowKit
theorem St.of3 {w : World} {b c e : Nat} {o p q : Obj} (M : List Nat) (h : w.heap[b]? = some o) (h' : w.heap[c]? = some p) (h'' : w.heap[e]? = some q) (h1 : b ≠ c) (h2 : b ≠ e) (h3 : c ≠ e) : St w M [.blk b o, .blk c p, .blk e q] w :=
  ⟨Chg.refl M w, List.pairwise_cons.2 ⟨by simp [Res.at?, h1, h2], List.pairwise_cons.2 ⟨by simp [Res.at?, h3], List.pairwise_singleton _ _⟩⟩, by simp [Res.holds, h, h', h'']⟩
/-- the frame of a deferred closure, as far as it is known -/
theorem K.of {m : Nat} {kn : Kn} {t : Array Value} (hs : t.size = m) (h : ∀ i v, find kn i = some v → t[i]? = some v) : K (m, []) kn { tmps := t, defers := [] } := ⟨rfl, hs, h⟩
theorem wp_of_vc {P : Program} {n : Fr} {c : Code} {Q : Exit → Act → World → Prop} {kn : Kn} {a : Act} {w : World} (ha : K n kn a) (h : vcC P n c Q kn w) : c.wp P Q a w := h a ha
/-- a region none of whose operations ends in a panic -/
def noPan (Q : Exit → Act → World → Prop) : Exit → Act → World → Prop := fun e a w => (match e with | .panic _ => False | _ => True) ∧ Q e a w
theorem okQ_noPan {Q : Exit → Act → World → Prop} : okQ (noPan Q) := fun _ _ _ _ _ hq => hq.1.elim
theorem vc_noPan {P : Program} {n : Fr} {c : Code} {Q : Exit → Act → World → Prop} {kn : Kn} {w : World} (h : vcC P n c (noPan Q) kn w) : vcC P n c Q kn w := fun a ha => Code.wp_mono (fun _ _ _ h => h.2) (h a ha)
theorem vq_noPan {n : Fr} {Q : Exit → Act → World → Prop} {kn : Kn} {w : World} (h : vcQ n Q .normal kn w) : vcQ n (noPan Q) .normal kn w := fun a ha => ⟨trivial, h a ha⟩
end Sx

