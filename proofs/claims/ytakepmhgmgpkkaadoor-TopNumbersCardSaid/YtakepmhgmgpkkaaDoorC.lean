/- A part of the proof: contracts of functions and plain laws; each theorem says its own conditions. -/
import Derived.Test.YtakepmhgmgpkkaaDoorB
import Derived.Test.YtakepmhgmgpkkaaDoorTrydShelfL
namespace Go.Proofs.YtakepmhgmgpkkaaDoor
open Go.RowKit Sx LexS
set_option linter.unusedVariables false
set_option linter.unusedSimpArgs false
/-- the scanner's block -/
abbrev scn (s : List UInt8) (i : Int) (fa fr : Int) : Obj := .cells [str s, .int .i64 i, .int .i64 fa, .int .i64 fr].toArray 41 (0, 0)
theorem idxByte_any (l : List UInt8) (w : World) : Ret Tryd.prog 42 [str l, .int .u8 10] w fun v w' => v = .int .i64 (Lib.indexByte l 10) ∧ w' = w :=
  (Tryd.strings_IndexByte ⟨l.toArray⟩ 10 w).mono fun e w' ⟨he, hw⟩ => ⟨_, he, rfl, hw⟩
theorem hasPrefix_eq (l : List UInt8) : Lib.hasPrefix l [47, 47] = isRem l := by
  match l with
  | [] => rfl
  | [a] => simp [Lib.hasPrefix, isRem, List.isPrefixOf]
  | a :: b :: r =>
    have h : Lib.hasPrefix (a :: b :: r) [47, 47] = ((47 == a) && (47 == b)) := by simp [Lib.hasPrefix, List.isPrefixOf]
    rw [h, isRem]
    apply Bool.eq_iff_iff.2
    simp only [Bool.and_eq_true, beq_iff_eq, decide_eq_true_eq]
    exact ⟨fun ⟨h1, h2⟩ => ⟨h1.symm, h2.symm⟩, fun ⟨h1, h2⟩ => ⟨h1.symm, h2.symm⟩⟩
theorem hasRem_any (l : List UInt8) (w : World) : Ret Tryd.prog 41 [str l, str [47, 47]] w fun v w' => v = .bool (isRem l) ∧ w' = w :=
  (Tryd.strings_HasPrefix ⟨l.toArray⟩ ⟨[47, 47].toArray⟩ w).mono fun e w' ⟨he, hw⟩ => ⟨_, he, by rw [← hasPrefix_eq], hw⟩
theorem drop_cons {s : List UInt8} {j : Nat} (h : j < s.length) : s.drop j = s.getD j 0 :: s.drop (j + 1) := by
  rw [List.drop_eq_getElem_cons h]; simp [List.getD, h]

theorem over_any (b : Nat) (s : List UInt8) (i : Nat) (fa fr : Int) (w : World) (hb : w.heap[b]? = some (scn s i fa fr)) (hi : i ≤ s.length) (hs : s.length ≤ 3000000) :
    Ret Tryd.prog 15 [.pointer (some ⟨b, 0, none⟩)] w fun v w' => v = .tuple #[] ∧ Chg [b] w w' ∧ w'.heap[b]? = some (scn s ((i + skip (s.drop i) : Nat) : Int) fa fr) := by
  refine ret_of [_] Tryd.func15 rfl Tryd.ntmps15 rfl ?_
  have st := St.init w [b]
  replace st := St.of1 [b] hb
  refine vc_block ?_
  refine vc_loop (w0 := _) (M := _) (fun _ => [(0, .pointer (some ⟨b, 0, none⟩))]) (fun (j : Nat) => [.blk b (scn s j fa fr)]) (fun j _ => j ≤ s.length ∧ j + skip (s.drop j) = i + skip (s.drop i)) (fun j => s.length - j) i ⟨rfl, trivial⟩ st ⟨hi, rfl⟩ ?_
  rintro j w ⟨hj, he⟩ st
  refine vc_seq ?_
  refine vc_seq ?_
  refine vc_draw Tryd.mixed [(0, true), (1, true), (2, true), (3, true), (4, true), (5, true), (6, true), (7, true), (8, true), (9, true)] (fun w => St _ _ _ w) st (by kernel_rfl) (by repeat (first | exact okQ_body | refine okQ_then ?_ | refine okQ_block ?_)) rfl (by kernel_rfl) ?_
  intro w cd; replace st := st.call0 cd; clear cd
  have hS := st
  refine vp_take rfl rfl rfl hS (fun w st => y_mv rfl) ?_
  refine vp_take rfl rfl rfl hS (fun w st => y_nck rfl) ?_
  refine vp_take rfl rfl rfl hS (fun w st => (by first | exact y_faz (k := 1) rfl Tryd.underlying41 rfl rfl Tryd.sizeOf3 rfl | exact y_fa (k := 1) rfl Tryd.underlying41 rfl rfl Tryd.sizeOf3 rfl)) ?_
  refine vp_take rfl rfl rfl hS (fun w st => (by first | exact y_ld st 0 rfl Tryd.isAgg3 rfl rfl)) ?_
  refine vp_take rfl rfl rfl hS (fun w st => y_mv rfl) ?_
  refine vp_take rfl rfl rfl hS (fun w st => y_nck rfl) ?_
  refine vp_take rfl rfl rfl hS (fun w st => y_fa0 rfl Tryd.underlying41 rfl rfl Tryd.sizeOf9 rfl) ?_
  refine vp_take rfl rfl rfl hS (fun w st => (by first | exact y_ld st 0 rfl Tryd.isAgg9 rfl rfl)) ?_
  refine vp_take rfl rfl rfl hS (fun w st => y_lens rfl Tryd.underlying9) ?_
  refine vp_take rfl rfl rfl hS (fun w st => y_lss rfl rfl) ?_
  refine vp_end ?_
  refine vq_then ?_
  refine vc_keep [(0, _), (12, _)] ⟨rfl, rfl, trivial⟩ ?_
  refine vc_ifs rfl ?_ ?_
  · intro hc12
    try simp only [decide_eq_true_eq, decide_eq_false_iff_not, Bool.not_eq_true', Bool.not_eq_false', Bool.not_eq_true, Bool.not_eq_false, Int.not_lt, Int.not_le, Nat.not_lt, Nat.not_le, Bool.not_true, Bool.not_false, Bool.true_eq_false, Bool.false_eq_true] at hc12
    have hd := drop_cons (s := s) (j := j) (by omega)
    refine vc_code_skip ?_
    refine vq_then ?_
    refine vc_keep [(0, _)] ⟨rfl, trivial⟩ ?_
    refine vc_block ?_
    refine vc_block ?_
    refine vc_seq ?_
    refine vc_draw Tryd.mixed [(0, true), (1, true), (2, true), (3, true), (4, true), (5, true), (6, true), (7, true), (8, true), (9, false), (10, true)] (fun w => St _ _ _ w) st (by kernel_rfl) (by repeat (first | exact okQ_body | refine okQ_then ?_ | refine okQ_block ?_)) rfl (by kernel_rfl) ?_
    intro w cd; replace st := st.call0 cd; clear cd
    have hS := st
    refine vp_take rfl rfl rfl hS (fun w st => y_mv rfl) ?_
    refine vp_take rfl rfl rfl hS (fun w st => y_nck rfl) ?_
    refine vp_take rfl rfl rfl hS (fun w st => y_fa0 rfl Tryd.underlying41 rfl rfl Tryd.sizeOf9 rfl) ?_
    refine vp_take rfl rfl rfl hS (fun w st => (by first | exact y_ld st 0 rfl Tryd.isAgg9 rfl rfl)) ?_
    refine vp_take rfl rfl rfl hS (fun w st => y_mv rfl) ?_
    refine vp_take rfl rfl rfl hS (fun w st => y_nck rfl) ?_
    refine vp_take rfl rfl rfl hS (fun w st => (by first | exact y_faz (k := 1) rfl Tryd.underlying41 rfl rfl Tryd.sizeOf3 rfl | exact y_fa (k := 1) rfl Tryd.underlying41 rfl rfl Tryd.sizeOf3 rfl)) ?_
    refine vp_take rfl rfl rfl hS (fun w st => (by first | exact y_ld st 0 rfl Tryd.isAgg3 rfl rfl)) ?_
    refine vp_take rfl rfl rfl hS (fun w st => y_ixs (k := _) rfl rfl Tryd.underlying9 rfl (by omega)) ?_
    refine vp_do rfl (e_call [_] rfl rfl Tryd.call40 rfl (blank_any _ _) ?_)
    rintro _ _ ⟨rfl, rfl⟩
    refine vp_next (by first | exact st | exact st.drop (by repeat (first | exact List.Sublist.slnil | apply List.Sublist.cons_cons | apply List.Sublist.cons))) ?_; intro hS
    refine vp_take rfl rfl rfl hS (fun w st => y_as rfl) ?_
    refine vp_end ?_
    refine vq_then ?_
    refine vc_keep [(0, _), (13, _)] ⟨rfl, rfl, trivial⟩ ?_
    refine vc_ifs rfl ?_ ?_
    · intro hc13
      try simp only [decide_eq_true_eq, decide_eq_false_iff_not, Bool.not_eq_true', Bool.not_eq_false', Bool.not_eq_true, Bool.not_eq_false, Int.not_lt, Int.not_le, Nat.not_lt, Nat.not_le, Bool.not_true, Bool.not_false, Bool.true_eq_false, Bool.false_eq_true] at hc13
      refine vc_region ?_
      refine vc_y rfl rfl (y_mv rfl) ?_
      refine vc_y rfl rfl (y_nck rfl) ?_
      refine vc_y rfl rfl ((by first | exact y_faz (k := 1) rfl Tryd.underlying41 rfl rfl Tryd.sizeOf3 rfl | exact y_fa (k := 1) rfl Tryd.underlying41 rfl rfl Tryd.sizeOf3 rfl)) ?_
      refine vc_y rfl rfl ((by first | exact y_ld st 0 rfl Tryd.isAgg3 rfl rfl)) ?_
      refine vc_y rfl rfl (y_add rfl rfl rfl (by omega) (by omega)) ?_
      refine vc_y rfl rfl (y_nck rfl) ?_
      refine vc_y rfl rfl ((by first | exact y_faz (k := 1) rfl Tryd.underlying41 rfl rfl Tryd.sizeOf3 rfl | exact y_fa (k := 1) rfl Tryd.underlying41 rfl rfl Tryd.sizeOf3 rfl)) ?_
      first
      | refine vc_e (e_st st 0 rfl rfl rfl rfl Tryd.sizeOf3 rfl rfl (by first | (right; assumption) | (left; simp)) ?_)
      intro w st; dsimp only [setNth, wr] at st
      refine vc_end ?_
      refine vq_block ?_
      refine vq_block ?_
      refine vq_again (j + 1)  ⟨rfl, trivial⟩ st ?_ ?_
      · exact ⟨by omega, by rw [hd, skip_blank hc13] at he; omega⟩
      · omega
    · intro hc13
      try simp only [decide_eq_true_eq, decide_eq_false_iff_not, Bool.not_eq_true', Bool.not_eq_false', Bool.not_eq_true, Bool.not_eq_false, Int.not_lt, Int.not_le, Nat.not_lt, Nat.not_le, Bool.not_true, Bool.not_false, Bool.true_eq_false, Bool.false_eq_true] at hc13
      refine vc_seq ?_
      refine vc_draw Tryd.mixed [(0, true), (1, true), (2, true), (3, true), (4, true), (5, true), (6, true), (7, true), (8, true), (9, false), (10, true)] (fun w => St _ _ _ w) st (by kernel_rfl) (by repeat (first | exact okQ_body | refine okQ_then ?_ | refine okQ_block ?_)) rfl (by kernel_rfl) ?_
      intro w cd; replace st := st.call0 cd; clear cd
      have hS := st
      refine vp_take rfl rfl rfl hS (fun w st => y_mv rfl) ?_
      refine vp_take rfl rfl rfl hS (fun w st => y_nck rfl) ?_
      refine vp_take rfl rfl rfl hS (fun w st => y_fa0 rfl Tryd.underlying41 rfl rfl Tryd.sizeOf9 rfl) ?_
      refine vp_take rfl rfl rfl hS (fun w st => (by first | exact y_ld st 0 rfl Tryd.isAgg9 rfl rfl)) ?_
      refine vp_take rfl rfl rfl hS (fun w st => y_mv rfl) ?_
      refine vp_take rfl rfl rfl hS (fun w st => y_nck rfl) ?_
      refine vp_take rfl rfl rfl hS (fun w st => (by first | exact y_faz (k := 1) rfl Tryd.underlying41 rfl rfl Tryd.sizeOf3 rfl | exact y_fa (k := 1) rfl Tryd.underlying41 rfl rfl Tryd.sizeOf3 rfl)) ?_
      refine vp_take rfl rfl rfl hS (fun w st => (by first | exact y_ld st 0 rfl Tryd.isAgg3 rfl rfl)) ?_
      refine vp_take rfl rfl rfl hS (fun w st => y_slf (i := _) rfl rfl Tryd.underlying9 rfl (by omega)) ?_
      refine vp_do rfl (e_call [_, _] rfl rfl Tryd.call41 rfl (hasRem_any _ _) ?_)
      rintro _ _ ⟨rfl, rfl⟩
      refine vp_next (by first | exact st | exact st.drop (by repeat (first | exact List.Sublist.slnil | apply List.Sublist.cons_cons | apply List.Sublist.cons))) ?_; intro hS
      refine vp_take rfl rfl rfl hS (fun w st => y_as rfl) ?_
      refine vp_end ?_
      refine vq_then ?_
      refine vc_keep [(0, _), (31, _)] ⟨rfl, rfl, trivial⟩ ?_
      refine vc_ifs rfl ?_ ?_
      · intro hc31
        try simp only [decide_eq_true_eq, decide_eq_false_iff_not, Bool.not_eq_true', Bool.not_eq_false', Bool.not_eq_true, Bool.not_eq_false, Int.not_lt, Int.not_le, Nat.not_lt, Nat.not_le, Bool.not_true, Bool.not_false, Bool.true_eq_false, Bool.false_eq_true] at hc31
        refine vc_seq ?_
        refine vc_draw Tryd.mixed [(0, true), (1, true), (2, true), (3, true), (4, true), (5, true), (6, true), (7, true), (8, true), (9, false), (10, true)] (fun w => St _ _ _ w) st (by kernel_rfl) (by repeat (first | exact okQ_body | refine okQ_then ?_ | refine okQ_block ?_)) rfl (by kernel_rfl) ?_
        intro w cd; replace st := st.call0 cd; clear cd
        have hS := st
        refine vp_take rfl rfl rfl hS (fun w st => y_mv rfl) ?_
        refine vp_take rfl rfl rfl hS (fun w st => y_nck rfl) ?_
        refine vp_take rfl rfl rfl hS (fun w st => y_fa0 rfl Tryd.underlying41 rfl rfl Tryd.sizeOf9 rfl) ?_
        refine vp_take rfl rfl rfl hS (fun w st => (by first | exact y_ld st 0 rfl Tryd.isAgg9 rfl rfl)) ?_
        refine vp_take rfl rfl rfl hS (fun w st => y_mv rfl) ?_
        refine vp_take rfl rfl rfl hS (fun w st => y_nck rfl) ?_
        refine vp_take rfl rfl rfl hS (fun w st => (by first | exact y_faz (k := 1) rfl Tryd.underlying41 rfl rfl Tryd.sizeOf3 rfl | exact y_fa (k := 1) rfl Tryd.underlying41 rfl rfl Tryd.sizeOf3 rfl)) ?_
        refine vp_take rfl rfl rfl hS (fun w st => (by first | exact y_ld st 0 rfl Tryd.isAgg3 rfl rfl)) ?_
        refine vp_take rfl rfl rfl hS (fun w st => y_slf (i := _) rfl rfl Tryd.underlying9 rfl (by omega)) ?_
        refine vp_do rfl (e_call [_, _] rfl rfl Tryd.call42 rfl (idxByte_any _ _) ?_)
        rintro _ _ ⟨rfl, rfl⟩
        have hle := toLf_le (s.drop j)
        simp only [List.length_drop] at hle
        have hn := indexByte_lf (s.drop j)
        simp only [List.length_drop] at hn
        refine vp_next (by first | exact st | exact st.drop (by repeat (first | exact List.Sublist.slnil | apply List.Sublist.cons_cons | apply List.Sublist.cons))) ?_; intro hS
        refine vp_take rfl rfl rfl hS (fun w st => y_as rfl) ?_
        refine vp_end ?_
        refine vq_then ?_
        refine vc_keep [(0, _), (2, _)] ⟨rfl, rfl, trivial⟩ ?_
        refine vc_seq ?_
        refine vc_seq ?_
        refine vc_region ?_
        refine vc_y rfl rfl (y_mv rfl) ?_
        refine vc_y rfl rfl (y_lss rfl rfl) ?_
        refine vc_end ?_
        refine vq_then ?_
        refine vc_keep [(0, _), (2, _), (53, _)] ⟨rfl, rfl, rfl, trivial⟩ ?_
        refine vc_ifs rfl ?_ ?_
        · intro hc53
          try simp only [decide_eq_true_eq, decide_eq_false_iff_not, Bool.not_eq_true', Bool.not_eq_false', Bool.not_eq_true, Bool.not_eq_false, Int.not_lt, Int.not_le, Nat.not_lt, Nat.not_le, Bool.not_true, Bool.not_false, Bool.true_eq_false, Bool.false_eq_true] at hc53
          refine vc_draw Tryd.mixed [(0, true), (1, true), (2, true), (3, true), (4, true), (5, true), (6, true), (7, true), (8, true), (9, true), (10, true)] (fun w => St _ _ _ w) st (by kernel_rfl) (by repeat (first | exact okQ_body | refine okQ_then ?_ | refine okQ_block ?_)) rfl (by kernel_rfl) ?_
          intro w cd; replace st := st.call0 cd; clear cd
          have hS := st
          refine vp_take rfl rfl rfl hS (fun w st => y_mv rfl) ?_
          refine vp_take rfl rfl rfl hS (fun w st => y_nck rfl) ?_
          refine vp_take rfl rfl rfl hS (fun w st => y_fa0 rfl Tryd.underlying41 rfl rfl Tryd.sizeOf9 rfl) ?_
          refine vp_take rfl rfl rfl hS (fun w st => (by first | exact y_ld st 0 rfl Tryd.isAgg9 rfl rfl)) ?_
          refine vp_take rfl rfl rfl hS (fun w st => y_lens rfl Tryd.underlying9) ?_
          refine vp_take rfl rfl rfl hS (fun w st => y_mv rfl) ?_
          refine vp_take rfl rfl rfl hS (fun w st => y_nck rfl) ?_
          refine vp_take rfl rfl rfl hS (fun w st => (by first | exact y_faz (k := 1) rfl Tryd.underlying41 rfl rfl Tryd.sizeOf3 rfl | exact y_fa (k := 1) rfl Tryd.underlying41 rfl rfl Tryd.sizeOf3 rfl)) ?_
          refine vp_take rfl rfl rfl hS (fun w st => (by first | exact y_ld st 0 rfl Tryd.isAgg3 rfl rfl)) ?_
          refine vp_take rfl rfl rfl hS (fun w st => y_sub rfl rfl rfl (by omega) (by omega)) ?_
          refine vp_take rfl rfl rfl hS (fun w st => y_as rfl) ?_
          refine vp_end ?_
          refine vq_then ?_
          refine vc_keep [(0, _), (2, _)] ⟨rfl, rfl, trivial⟩ ?_
          refine vc_region ?_
          refine vc_y rfl rfl (y_mv rfl) ?_
          refine vc_y rfl rfl (y_nck rfl) ?_
          refine vc_y rfl rfl ((by first | exact y_faz (k := 1) rfl Tryd.underlying41 rfl rfl Tryd.sizeOf3 rfl | exact y_fa (k := 1) rfl Tryd.underlying41 rfl rfl Tryd.sizeOf3 rfl)) ?_
          refine vc_y rfl rfl ((by first | exact y_ld st 0 rfl Tryd.isAgg3 rfl rfl)) ?_
          refine vc_y rfl rfl (y_mv rfl) ?_
          refine vc_y rfl rfl (y_add rfl rfl (by omega : _ = ((j + toLf (List.drop j s) : Nat) : Int)) (by omega) (by omega)) ?_
          refine vc_y rfl rfl (y_nck rfl) ?_
          refine vc_y rfl rfl ((by first | exact y_faz (k := 1) rfl Tryd.underlying41 rfl rfl Tryd.sizeOf3 rfl | exact y_fa (k := 1) rfl Tryd.underlying41 rfl rfl Tryd.sizeOf3 rfl)) ?_
          first
          | refine vc_e (e_st st 0 rfl rfl rfl rfl Tryd.sizeOf3 rfl rfl (by first | (right; assumption) | (left; simp)) ?_)
          intro w st; dsimp only [setNth, wr] at st
          refine vc_end ?_
          refine vq_block ?_
          refine vq_block ?_
          refine vq_again (j + toLf (List.drop j s))  ⟨rfl, trivial⟩ st ?_ ?_
          · exact ⟨by omega, by rw [skip_rem hc31, List.drop_drop] at he; omega⟩
          · have := toLf_pos hc31; omega
        · intro hc53
          try simp only [decide_eq_true_eq, decide_eq_false_iff_not, Bool.not_eq_true', Bool.not_eq_false', Bool.not_eq_true, Bool.not_eq_false, Int.not_lt, Int.not_le, Nat.not_lt, Nat.not_le, Bool.not_true, Bool.not_false, Bool.true_eq_false, Bool.false_eq_true] at hc53
          refine vc_code_skip ?_
          refine vq_then ?_
          refine vc_keep [(0, _), (2, _)] ⟨rfl, rfl, trivial⟩ ?_
          refine vc_region ?_
          refine vc_y rfl rfl (y_mv rfl) ?_
          refine vc_y rfl rfl (y_nck rfl) ?_
          refine vc_y rfl rfl ((by first | exact y_faz (k := 1) rfl Tryd.underlying41 rfl rfl Tryd.sizeOf3 rfl | exact y_fa (k := 1) rfl Tryd.underlying41 rfl rfl Tryd.sizeOf3 rfl)) ?_
          refine vc_y rfl rfl ((by first | exact y_ld st 0 rfl Tryd.isAgg3 rfl rfl)) ?_
          refine vc_y rfl rfl (y_mv rfl) ?_
          refine vc_y rfl rfl (y_add rfl rfl (by omega : _ = ((j + toLf (List.drop j s) : Nat) : Int)) (by omega) (by omega)) ?_
          refine vc_y rfl rfl (y_nck rfl) ?_
          refine vc_y rfl rfl ((by first | exact y_faz (k := 1) rfl Tryd.underlying41 rfl rfl Tryd.sizeOf3 rfl | exact y_fa (k := 1) rfl Tryd.underlying41 rfl rfl Tryd.sizeOf3 rfl)) ?_
          first
          | refine vc_e (e_st st 0 rfl rfl rfl rfl Tryd.sizeOf3 rfl rfl (by first | (right; assumption) | (left; simp)) ?_)
          intro w st; dsimp only [setNth, wr] at st
          refine vc_end ?_
          refine vq_block ?_
          refine vq_block ?_
          refine vq_again (j + toLf (List.drop j s))  ⟨rfl, trivial⟩ st ?_ ?_
          · exact ⟨by omega, by rw [skip_rem hc31, List.drop_drop] at he; omega⟩
          · have := toLf_pos hc31; omega
      · intro hc31
        try simp only [decide_eq_true_eq, decide_eq_false_iff_not, Bool.not_eq_true', Bool.not_eq_false', Bool.not_eq_true, Bool.not_eq_false, Int.not_lt, Int.not_le, Nat.not_lt, Nat.not_le, Bool.not_true, Bool.not_false, Bool.true_eq_false, Bool.false_eq_true] at hc31
        refine vc_ret ?_
        refine vq_block_ret ?_
        refine vq_block_ret ?_
        refine vq_then_ret ?_
        refine vq_block_ret ?_
        refine vq_ret0 (.inl rfl) Tryd.results15 ?_
        refine ⟨_, rfl, ?_⟩
        exact ⟨rfl, st.chg, by have h := st.res (i := 0) rfl; rw [hd] at hc31; rw [hd, skip_other hc13 hc31] at he; rw [show i + skip (List.drop i s) = j by omega]; exact h⟩
  · intro hc12
    try simp only [decide_eq_true_eq, decide_eq_false_iff_not, Bool.not_eq_true', Bool.not_eq_false', Bool.not_eq_true, Bool.not_eq_false, Int.not_lt, Int.not_le, Nat.not_lt, Nat.not_le, Bool.not_true, Bool.not_false, Bool.true_eq_false, Bool.false_eq_true] at hc12
    obtain rfl : j = s.length := by omega
    simp only [List.drop_length, skip_nil] at he
    refine vc_exit ?_
    refine vq_then_exit ?_
    refine vq_then_exit ?_
    refine vq_block_exit ?_
    refine vq_ret0 (.inr rfl) Tryd.results15 ?_
    refine ⟨_, rfl, ?_⟩
    exact ⟨rfl, st.chg, by have h := st.res (i := 0) rfl; rw [show i + skip (List.drop i s) = s.length by omega]; exact h⟩

end Go.Proofs.YtakepmhgmgpkkaaDoor
