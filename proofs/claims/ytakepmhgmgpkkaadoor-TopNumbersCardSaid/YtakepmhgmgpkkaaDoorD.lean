/- A part of the proof: contracts of functions and plain laws; each theorem says its own conditions. -/
import Derived.Test.YtakepmhgmgpkkaaDoorC
namespace Go.Proofs.YtakepmhgmgpkkaaDoor
open Go.RowKit Sx LexS
set_option linter.unusedVariables false
set_option linter.unusedSimpArgs false
abbrev tokL (t : Tok) : List Value := [.int .u8 (t.kind : Int), str t.text, .int .i64 (t.word : Int), .int .i64 (t.at_ : Int)]
abbrev zeroL : List Value := [.int .u8 0, str [], .int .i64 0, .int .i64 0]
/-- what a reader of tokens leaves -/
def RdPost (b : Nat) (s : List UInt8) (i : Nat) (fa fr : Int) (res : TokR) (v : Value) (w' : World) : Prop := match res with
  | .tok t => v = .agg (tokL t).toArray ∧ w'.heap[b]? = some (scn s ((i + t.text.length : Nat) : Int) fa fr)
  | .bad rule p => v = .agg zeroL.toArray ∧ ∃ j : Int, w'.heap[b]? = some (scn s j (p : Int) (rule : Int))
theorem tokAt_word {s : List UInt8} {i : Nat} (h : i < s.length) (hc : isLetter (s.getD i 0) = true) : tokAt (s.drop i) i =
    if isWord ((s.drop i).takeWhile isIdent) then .tok ⟨2, (s.drop i).takeWhile isIdent, 0, i⟩ else if 32 < ((s.drop i).takeWhile isIdent).length then .bad 2 (i + 32) else .tok ⟨1, (s.drop i).takeWhile isIdent, 0, i⟩ := by
  rw [drop_cons h]; simp only [tokAt, hc, if_true]
theorem tw_step {p : UInt8 → Bool} {s : List UInt8} {i j : Nat} (hij : i ≤ j) (hj : j < s.length) (hp : p (s.getD j 0) = true)
    (h : (s.drop i).takeWhile p = (s.drop i).take (j - i) ++ (s.drop j).takeWhile p) : (s.drop i).takeWhile p = (s.drop i).take (j + 1 - i) ++ (s.drop (j + 1)).takeWhile p := by
  rw [h, drop_cons hj, List.takeWhile_cons, if_pos hp, show j + 1 - i = (j - i) + 1 from by omega, List.take_succ_eq_append_getElem (by simp; omega)]
  simp [List.getD, hj, show i + (j - i) = j from by omega]
theorem tw_end {p : UInt8 → Bool} {s : List UInt8} {i j : Nat} (hp : j < s.length → p (s.getD j 0) = false)
    (h : (s.drop i).takeWhile p = (s.drop i).take (j - i) ++ (s.drop j).takeWhile p) : (s.drop i).takeWhile p = (s.drop i).take (j - i) := by
  by_cases hj : j < s.length
  · rw [h, drop_cons hj, List.takeWhile_cons, hp hj]; simp
  · have e : s.drop j = [] := List.drop_eq_nil_of_le (by omega)
    rw [h, e]; simp
theorem isIdent_of (c : UInt8) (h : isLetter c = true ∨ isDigit c = true) : isIdent c = true := by unfold isIdent; rcases h with h | h <;> simp [h]
theorem isIdent_no (c : UInt8) (h : isLetter c = false) (h' : isDigit c = false) : isIdent c = false := by unfold isIdent; simp [h, h']

theorem wrong_any (b : Nat) (s : List UInt8) (i fa fr at_ rule : Int) (w : World) (hb : w.heap[b]? = some (scn s i fa fr)) :
    Ret Tryd.prog 43 [.pointer (some ⟨b, 0, none⟩), .int .i64 at_, .int .i64 rule] w fun v w' => v = .agg zeroL.toArray ∧ Chg [b] w w' ∧ w'.heap[b]? = some (scn s i at_ rule) := by
  refine ret_of [_, _, _] Tryd.func43 rfl Tryd.ntmps43 rfl ?_
  have st := St.init w [b]
  replace st := St.of1 [b] hb
  refine vc_seq ?_
  refine vc_region ?_
  refine vc_e (e_al (l := [_, _, _, _]) st rfl rfl Tryd.zeroValue33 rfl ?_)
  intro b6 w hb6 st
  refine vc_end ?_
  refine vq_then ?_
  refine vc_keep [(0, _), (1, _), (2, _), (6, _)] ⟨rfl, rfl, rfl, rfl, trivial⟩ ?_
  refine vc_seq ?_
  refine vc_region ?_
  refine vc_y rfl rfl (y_mv rfl) ?_
  refine vc_y rfl rfl (y_mv rfl) ?_
  refine vc_y rfl rfl (y_mv rfl) ?_
  refine vc_y rfl rfl (y_bld (.agg #[_, _]) [(0, _), (1, _)] rfl (fun w => by simp [Instr.build, go_sem] <;> repeat' constructor)) ?_
  refine vc_y rfl rfl (y_nck rfl) ?_
  refine vc_y rfl rfl ((by first | exact y_faz (k := 2) rfl Tryd.underlying41 rfl rfl Tryd.sizeOf27 rfl | exact y_fa (k := 2) rfl Tryd.underlying41 rfl rfl Tryd.sizeOf27 rfl)) ?_
  first
  | refine vc_e (e_sts (vs := [_, _]) st 0 rfl rfl rfl rfl rfl Tryd.sizeOf27 rfl rfl (by first | (right; assumption) | (left; simp)) ?_)
  | refine vc_e (e_sts (vs := [_, _]) st 1 rfl rfl rfl rfl rfl Tryd.sizeOf27 rfl rfl (by first | (right; assumption) | (left; simp)) ?_)
  intro w st; dsimp only [setNth, wr] at st
  refine vc_end ?_
  refine vq_then ?_
  refine vc_keep [(6, _)] ⟨rfl, trivial⟩ ?_
  refine vc_seq ?_
  refine vc_region ?_
  refine vc_y rfl rfl (y_bld (.agg #[_, _, _, _]) [] rfl (fun w => by simp [Instr.build, go_sem] <;> repeat' constructor)) ?_
  first
  | refine vc_e (e_sts (vs := [_, _, _, _]) st 0 rfl rfl rfl rfl rfl Tryd.sizeOf33 rfl rfl (by first | (right; assumption) | (left; simp)) ?_)
  | refine vc_e (e_sts (vs := [_, _, _, _]) st 1 rfl rfl rfl rfl rfl Tryd.sizeOf33 rfl rfl (by first | (right; assumption) | (left; simp)) ?_)
  intro w st; dsimp only [setNth, wr] at st
  refine vc_end ?_
  refine vq_then ?_
  refine vc_keep [(6, _)] ⟨rfl, trivial⟩ ?_
  refine vc_ret ?_
  refine vq_ret1 st (.inl rfl) Tryd.results43 (by first | exact .cell 0 rfl rfl Tryd.isAgg33 Tryd.sizeOf33 | exact .cell 1 rfl rfl Tryd.isAgg33 Tryd.sizeOf33) ?_
  refine ⟨_, rfl, ?_⟩
  exact ⟨rfl, st.chg, st.res (i := 1) rfl⟩

theorem word_rd (b : Nat) (s : List UInt8) (i : Nat) (fa fr : Int) (w : World) (hb : w.heap[b]? = some (scn s i fa fr)) (hi : i < s.length) (hs : s.length ≤ 3000000) (hc : isLetter (s.getD i 0) = true) :
    Ret Tryd.prog 17 [.pointer (some ⟨b, 0, none⟩)] w fun v w' => Chg [b] w w' ∧ RdPost b s i fa fr (tokAt (s.drop i) i) v w' := by
  refine ret_of [_] Tryd.func17 rfl Tryd.ntmps17 rfl ?_
  have st := St.init w [b]
  replace st := St.of1 [b] hb
  refine vc_seq ?_
  refine vc_region ?_
  refine vc_e (e_al (l := [_, _, _, _]) st rfl rfl Tryd.zeroValue33 rfl ?_)
  intro b2 w hb2 st
  refine vc_end ?_
  refine vq_then ?_
  refine vc_keep [(0, _), (2, _)] ⟨rfl, rfl, trivial⟩ ?_
  refine vc_seq ?_
  refine vc_region ?_
  refine vc_y rfl rfl (y_mv rfl) ?_
  refine vc_y rfl rfl (y_nck rfl) ?_
  refine vc_y rfl rfl ((by first | exact y_faz (k := 1) rfl Tryd.underlying41 rfl rfl Tryd.sizeOf3 rfl | exact y_fa (k := 1) rfl Tryd.underlying41 rfl rfl Tryd.sizeOf3 rfl)) ?_
  refine vc_y rfl rfl ((by first | exact y_ld st 0 rfl Tryd.isAgg3 rfl rfl | exact y_ld st 1 rfl Tryd.isAgg3 rfl rfl | exact y_ld st 2 rfl Tryd.isAgg3 rfl rfl)) ?_
  refine vc_y rfl rfl (y_as rfl) ?_
  refine vc_end ?_
  refine vq_then ?_
  refine vc_keep [(0, _), (2, _), (3, _)] ⟨rfl, rfl, rfl, trivial⟩ ?_
  refine vc_seq ?_
  refine vc_block ?_
  refine vc_loop (w0 := _) (M := _) (fun _ => [(0, .pointer (some ⟨b, 0, none⟩)), (2, .pointer (some ⟨b2, 0, none⟩)), (3, .int .i64 (i : Int))]) (fun (j : Nat) => [.blk b2 (.cells zeroL.toArray 33 (0, 0)), .blk b (scn s j fa fr)]) (fun j _ => i ≤ j ∧ j ≤ s.length ∧ (s.drop i).takeWhile isIdent = (s.drop i).take (j - i) ++ (s.drop j).takeWhile isIdent) (fun j => s.length - j) i ⟨rfl, rfl, rfl, trivial⟩ st ⟨by omega, by omega, by simp⟩ ?_
  rintro j w ⟨hij, hj, he⟩ st
  refine vc_seq ?_
  refine vc_seq ?_
  refine vc_draw Tryd.mixed [(0, true), (1, true), (2, true), (3, true), (4, true), (5, true), (6, true), (7, true), (8, true), (9, true), (10, true), (11, true), (12, true), (13, true), (14, true), (15, true), (16, true), (17, true), (18, true), (19, true), (20, false), (21, true), (22, true), (23, true), (24, true), (25, true), (26, true), (27, true), (28, true), (29, true), (30, true), (31, false), (32, true), (33, true)] (fun w => St _ _ _ w) st (by kernel_rfl) (by repeat (first | exact okQ_body | refine okQ_then ?_ | refine okQ_block ?_)) rfl (by kernel_rfl) ?_
  intro w cd; replace st := st.call0 cd; clear cd
  have hS := st
  refine vp_take rfl rfl rfl hS (fun w st => y_mv rfl) ?_
  refine vp_take rfl rfl rfl hS (fun w st => y_nck rfl) ?_
  refine vp_take rfl rfl rfl hS (fun w st => (by first | exact y_faz (k := 1) rfl Tryd.underlying41 rfl rfl Tryd.sizeOf3 rfl | exact y_fa (k := 1) rfl Tryd.underlying41 rfl rfl Tryd.sizeOf3 rfl)) ?_
  refine vp_take rfl rfl rfl hS (fun w st => (by first | exact y_ld st 0 rfl Tryd.isAgg3 rfl rfl | exact y_ld st 1 rfl Tryd.isAgg3 rfl rfl | exact y_ld st 2 rfl Tryd.isAgg3 rfl rfl)) ?_
  refine vp_take rfl rfl rfl hS (fun w st => y_mv rfl) ?_
  refine vp_take rfl rfl rfl hS (fun w st => y_nck rfl) ?_
  refine vp_take rfl rfl rfl hS (fun w st => y_fa0 rfl Tryd.underlying41 rfl rfl Tryd.sizeOf9 rfl) ?_
  refine vp_take rfl rfl rfl hS (fun w st => (by first | exact y_ld st 0 rfl Tryd.isAgg9 rfl rfl | exact y_ld st 1 rfl Tryd.isAgg9 rfl rfl | exact y_ld st 2 rfl Tryd.isAgg9 rfl rfl)) ?_
  refine vp_take rfl rfl rfl hS (fun w st => y_lens rfl Tryd.underlying9) ?_
  refine vp_take rfl rfl rfl hS (fun w st => y_lss rfl rfl) ?_
  refine vp_part rfl rfl rfl hS rfl ?_ ?_
  · intro hg19
    try simp only [decide_eq_true_eq, decide_eq_false_iff_not, Bool.not_eq_true', Bool.not_eq_false', Bool.not_eq_true, Bool.not_eq_false, Int.not_lt, Int.not_le, Nat.not_lt, Nat.not_le, Bool.not_true, Bool.not_false, Bool.true_eq_false, Bool.false_eq_true] at hg19
    refine vp_take rfl rfl rfl hS (fun w st => y_mv rfl) ?_
    refine vp_take rfl rfl rfl hS (fun w st => y_nck rfl) ?_
    refine vp_take rfl rfl rfl hS (fun w st => y_fa0 rfl Tryd.underlying41 rfl rfl Tryd.sizeOf9 rfl) ?_
    refine vp_take rfl rfl rfl hS (fun w st => (by first | exact y_ld st 0 rfl Tryd.isAgg9 rfl rfl | exact y_ld st 1 rfl Tryd.isAgg9 rfl rfl | exact y_ld st 2 rfl Tryd.isAgg9 rfl rfl)) ?_
    refine vp_take rfl rfl rfl hS (fun w st => y_mv rfl) ?_
    refine vp_take rfl rfl rfl hS (fun w st => y_nck rfl) ?_
    refine vp_take rfl rfl rfl hS (fun w st => (by first | exact y_faz (k := 1) rfl Tryd.underlying41 rfl rfl Tryd.sizeOf3 rfl | exact y_fa (k := 1) rfl Tryd.underlying41 rfl rfl Tryd.sizeOf3 rfl)) ?_
    refine vp_take rfl rfl rfl hS (fun w st => (by first | exact y_ld st 0 rfl Tryd.isAgg3 rfl rfl | exact y_ld st 1 rfl Tryd.isAgg3 rfl rfl | exact y_ld st 2 rfl Tryd.isAgg3 rfl rfl)) ?_
    refine vp_take rfl rfl rfl hS (fun w st => y_ixs (k := _) rfl rfl Tryd.underlying9 rfl (by omega)) ?_
    refine vp_do rfl (e_call [_] rfl rfl Tryd.call19 rfl (letter_any _ _) ?_)
    rintro _ _ ⟨rfl, rfl⟩
    refine vp_next (by first | exact st | exact st.drop (by repeat (first | exact List.Sublist.slnil | apply List.Sublist.cons_cons | apply List.Sublist.cons))) ?_; intro hS
    refine vp_part rfl rfl rfl hS rfl ?_ ?_
    · intro hg30
      try simp only [decide_eq_true_eq, decide_eq_false_iff_not, Bool.not_eq_true', Bool.not_eq_false', Bool.not_eq_true, Bool.not_eq_false, Int.not_lt, Int.not_le, Nat.not_lt, Nat.not_le, Bool.not_true, Bool.not_false, Bool.true_eq_false, Bool.false_eq_true] at hg30
      refine vp_skip rfl rfl rfl hS ?_
      refine vp_skip rfl rfl rfl hS ?_
      refine vp_skip rfl rfl rfl hS ?_
      refine vp_skip rfl rfl rfl hS ?_
      refine vp_skip rfl rfl rfl hS ?_
      refine vp_skip rfl rfl rfl hS ?_
      refine vp_skip rfl rfl rfl hS ?_
      refine vp_skip rfl rfl rfl hS ?_
      refine vp_skip rfl rfl rfl hS ?_
      refine vp_do rfl (e_skip rfl rfl (vp_next hS (fun hS => ?_)))
      refine vp_take rfl rfl rfl hS (fun w st => y_pickt rfl rfl) ?_
      refine vp_take rfl rfl rfl hS (fun w st => y_pickt rfl rfl) ?_
      refine vp_end ?_
      refine vq_then ?_
      refine vc_keep [(0, _), (2, _), (3, _), (42, _)] ⟨rfl, rfl, rfl, rfl, trivial⟩ ?_
      refine vc_ift rfl ?_
      refine vc_code_skip ?_
      refine vq_then ?_
      refine vc_keep [(0, _), (2, _), (3, _)] ⟨rfl, rfl, rfl, trivial⟩ ?_
      refine vc_block ?_
      refine vc_region ?_
      refine vc_y rfl rfl (y_mv rfl) ?_
      refine vc_y rfl rfl (y_nck rfl) ?_
      refine vc_y rfl rfl ((by first | exact y_faz (k := 1) rfl Tryd.underlying41 rfl rfl Tryd.sizeOf3 rfl | exact y_fa (k := 1) rfl Tryd.underlying41 rfl rfl Tryd.sizeOf3 rfl)) ?_
      refine vc_y rfl rfl ((by first | exact y_ld st 0 rfl Tryd.isAgg3 rfl rfl | exact y_ld st 1 rfl Tryd.isAgg3 rfl rfl | exact y_ld st 2 rfl Tryd.isAgg3 rfl rfl)) ?_
      refine vc_y rfl rfl (y_add rfl rfl rfl (by omega) (by omega)) ?_
      refine vc_y rfl rfl (y_nck rfl) ?_
      refine vc_y rfl rfl ((by first | exact y_faz (k := 1) rfl Tryd.underlying41 rfl rfl Tryd.sizeOf3 rfl | exact y_fa (k := 1) rfl Tryd.underlying41 rfl rfl Tryd.sizeOf3 rfl)) ?_
      first
      | refine vc_e (e_st st 0 rfl rfl rfl rfl Tryd.sizeOf3 rfl rfl (by first | (right; assumption) | (left; simp)) ?_)
      | refine vc_e (e_st st 1 rfl rfl rfl rfl Tryd.sizeOf3 rfl rfl (by first | (right; assumption) | (left; simp)) ?_)
      | refine vc_e (e_st st 2 rfl rfl rfl rfl Tryd.sizeOf3 rfl rfl (by first | (right; assumption) | (left; simp)) ?_)
      intro w st; dsimp only [setNth, wr] at st
      refine vc_end ?_
      refine vq_block ?_
      refine vq_again (j + 1)  ⟨rfl, rfl, rfl, trivial⟩ st ?_ ?_
      · exact ⟨by omega, by omega, tw_step hij (by omega) (isIdent_of _ (by first | (left; assumption) | (right; assumption))) he⟩
      · omega
    · intro hg30
      try simp only [decide_eq_true_eq, decide_eq_false_iff_not, Bool.not_eq_true', Bool.not_eq_false', Bool.not_eq_true, Bool.not_eq_false, Int.not_lt, Int.not_le, Nat.not_lt, Nat.not_le, Bool.not_true, Bool.not_false, Bool.true_eq_false, Bool.false_eq_true] at hg30
      refine vp_take rfl rfl rfl hS (fun w st => y_mv rfl) ?_
      refine vp_take rfl rfl rfl hS (fun w st => y_nck rfl) ?_
      refine vp_take rfl rfl rfl hS (fun w st => y_fa0 rfl Tryd.underlying41 rfl rfl Tryd.sizeOf9 rfl) ?_
      refine vp_take rfl rfl rfl hS (fun w st => (by first | exact y_ld st 0 rfl Tryd.isAgg9 rfl rfl | exact y_ld st 1 rfl Tryd.isAgg9 rfl rfl | exact y_ld st 2 rfl Tryd.isAgg9 rfl rfl)) ?_
      refine vp_take rfl rfl rfl hS (fun w st => y_mv rfl) ?_
      refine vp_take rfl rfl rfl hS (fun w st => y_nck rfl) ?_
      refine vp_take rfl rfl rfl hS (fun w st => (by first | exact y_faz (k := 1) rfl Tryd.underlying41 rfl rfl Tryd.sizeOf3 rfl | exact y_fa (k := 1) rfl Tryd.underlying41 rfl rfl Tryd.sizeOf3 rfl)) ?_
      refine vp_take rfl rfl rfl hS (fun w st => (by first | exact y_ld st 0 rfl Tryd.isAgg3 rfl rfl | exact y_ld st 1 rfl Tryd.isAgg3 rfl rfl | exact y_ld st 2 rfl Tryd.isAgg3 rfl rfl)) ?_
      refine vp_take rfl rfl rfl hS (fun w st => y_ixs (k := _) rfl rfl Tryd.underlying9 rfl (by omega)) ?_
      refine vp_do rfl (e_call [_] rfl rfl Tryd.call20 rfl (digit_any _ _) ?_)
      rintro _ _ ⟨rfl, rfl⟩
      refine vp_next (by first | exact st | exact st.drop (by repeat (first | exact List.Sublist.slnil | apply List.Sublist.cons_cons | apply List.Sublist.cons))) ?_; intro hS
      refine vp_take rfl rfl rfl hS (fun w st => y_pickf rfl rfl) ?_
      refine vp_take rfl rfl rfl hS (fun w st => y_pickt rfl rfl) ?_
      refine vp_end ?_
      refine vq_then ?_
      refine vc_keep [(0, _), (2, _), (3, _), (42, _)] ⟨rfl, rfl, rfl, rfl, trivial⟩ ?_
      refine vc_ifs rfl ?_ ?_
      · intro hc42
        try simp only [decide_eq_true_eq, decide_eq_false_iff_not, Bool.not_eq_true', Bool.not_eq_false', Bool.not_eq_true, Bool.not_eq_false, Int.not_lt, Int.not_le, Nat.not_lt, Nat.not_le, Bool.not_true, Bool.not_false, Bool.true_eq_false, Bool.false_eq_true] at hc42
        refine vc_code_skip ?_
        refine vq_then ?_
        refine vc_keep [(0, _), (2, _), (3, _)] ⟨rfl, rfl, rfl, trivial⟩ ?_
        refine vc_block ?_
        refine vc_region ?_
        refine vc_y rfl rfl (y_mv rfl) ?_
        refine vc_y rfl rfl (y_nck rfl) ?_
        refine vc_y rfl rfl ((by first | exact y_faz (k := 1) rfl Tryd.underlying41 rfl rfl Tryd.sizeOf3 rfl | exact y_fa (k := 1) rfl Tryd.underlying41 rfl rfl Tryd.sizeOf3 rfl)) ?_
        refine vc_y rfl rfl ((by first | exact y_ld st 0 rfl Tryd.isAgg3 rfl rfl | exact y_ld st 1 rfl Tryd.isAgg3 rfl rfl | exact y_ld st 2 rfl Tryd.isAgg3 rfl rfl)) ?_
        refine vc_y rfl rfl (y_add rfl rfl rfl (by omega) (by omega)) ?_
        refine vc_y rfl rfl (y_nck rfl) ?_
        refine vc_y rfl rfl ((by first | exact y_faz (k := 1) rfl Tryd.underlying41 rfl rfl Tryd.sizeOf3 rfl | exact y_fa (k := 1) rfl Tryd.underlying41 rfl rfl Tryd.sizeOf3 rfl)) ?_
        first
        | refine vc_e (e_st st 0 rfl rfl rfl rfl Tryd.sizeOf3 rfl rfl (by first | (right; assumption) | (left; simp)) ?_)
        | refine vc_e (e_st st 1 rfl rfl rfl rfl Tryd.sizeOf3 rfl rfl (by first | (right; assumption) | (left; simp)) ?_)
        | refine vc_e (e_st st 2 rfl rfl rfl rfl Tryd.sizeOf3 rfl rfl (by first | (right; assumption) | (left; simp)) ?_)
        intro w st; dsimp only [setNth, wr] at st
        refine vc_end ?_
        refine vq_block ?_
        refine vq_again (j + 1)  ⟨rfl, rfl, rfl, trivial⟩ st ?_ ?_
        · exact ⟨by omega, by omega, tw_step hij (by omega) (isIdent_of _ (by first | (left; assumption) | (right; assumption))) he⟩
        · omega
      · intro hc42
        try simp only [decide_eq_true_eq, decide_eq_false_iff_not, Bool.not_eq_true', Bool.not_eq_false', Bool.not_eq_true, Bool.not_eq_false, Int.not_lt, Int.not_le, Nat.not_lt, Nat.not_le, Bool.not_true, Bool.not_false, Bool.true_eq_false, Bool.false_eq_true] at hc42
        have hT := tw_end (fun _ => isIdent_no _ (by assumption) (by assumption)) he
        refine vc_exit ?_
        refine vq_then_exit ?_
        refine vq_then_exit ?_
        refine vq_block_exit ?_
        refine vq_then ?_
        refine vc_keep [(0, _), (2, _), (3, _)] ⟨rfl, rfl, rfl, trivial⟩ ?_
        refine vc_seq ?_
        refine vc_draw Tryd.mixed [(0, true), (1, true), (2, true), (3, true), (4, true), (5, true), (6, true), (7, true), (8, true), (9, true), (10, true), (11, true), (12, false), (13, false)] (fun w => St _ _ [.blk b (scn s j fa fr)] w) (by first | exact st | exact st.drop (by repeat (first | exact List.Sublist.slnil | apply List.Sublist.cons_cons | apply List.Sublist.cons))) (by kernel_rfl) (by repeat (first | exact okQ_body | refine okQ_then ?_ | refine okQ_block ?_)) rfl (by kernel_rfl) ?_
        intro w cd; replace st := st.call0 cd; clear cd
        have hS : St _ _ [.blk b (scn s j fa fr)] w := (by first | exact st | exact st.drop (by repeat (first | exact List.Sublist.slnil | apply List.Sublist.cons_cons | apply List.Sublist.cons)))
        refine vp_take rfl rfl rfl hS (fun w st => y_mv rfl) ?_
        refine vp_take rfl rfl rfl hS (fun w st => y_nck rfl) ?_
        refine vp_take rfl rfl rfl hS (fun w st => y_fa0 rfl Tryd.underlying41 rfl rfl Tryd.sizeOf9 rfl) ?_
        refine vp_take rfl rfl rfl hS (fun w st => (by first | exact y_ld st 0 rfl Tryd.isAgg9 rfl rfl | exact y_ld st 1 rfl Tryd.isAgg9 rfl rfl | exact y_ld st 2 rfl Tryd.isAgg9 rfl rfl)) ?_
        refine vp_take rfl rfl rfl hS (fun w st => y_mv rfl) ?_
        refine vp_take rfl rfl rfl hS (fun w st => y_mv rfl) ?_
        refine vp_take rfl rfl rfl hS (fun w st => y_nck rfl) ?_
        refine vp_take rfl rfl rfl hS (fun w st => (by first | exact y_faz (k := 1) rfl Tryd.underlying41 rfl rfl Tryd.sizeOf3 rfl | exact y_fa (k := 1) rfl Tryd.underlying41 rfl rfl Tryd.sizeOf3 rfl)) ?_
        refine vp_take rfl rfl rfl hS (fun w st => (by first | exact y_ld st 0 rfl Tryd.isAgg3 rfl rfl | exact y_ld st 1 rfl Tryd.isAgg3 rfl rfl | exact y_ld st 2 rfl Tryd.isAgg3 rfl rfl)) ?_
        refine vp_take rfl rfl rfl hS (fun w st => y_sls (i := _) (j := _) rfl rfl rfl Tryd.underlying9 rfl rfl (by omega) (by omega)) ?_
        refine vp_take rfl rfl rfl hS (fun w st => y_mv rfl) ?_
        refine vp_take rfl rfl rfl hS (fun w st => y_bld (.agg #[_, _, _, _]) [(0, _), (1, _), (3, _)] rfl (fun w => by simp [Instr.build, go_sem] <;> repeat' constructor)) ?_
        refine vp_do rfl (e_al (l := [_, _, _, _]) st rfl rfl Tryd.zeroValue33 rfl ?_)
        intro b4 w hb4 st
        refine vp_next (by first | exact st | exact st.drop (by repeat (first | exact List.Sublist.slnil | apply List.Sublist.cons_cons | apply List.Sublist.cons))) ?_; intro hS
        first
        | refine vp_do rfl (e_sts (vs := [_, _, _, _]) st 0 rfl rfl rfl rfl rfl Tryd.sizeOf33 rfl rfl (by first | (right; assumption) | (left; simp)) ?_)
        | refine vp_do rfl (e_sts (vs := [_, _, _, _]) st 1 rfl rfl rfl rfl rfl Tryd.sizeOf33 rfl rfl (by first | (right; assumption) | (left; simp)) ?_)
        | refine vp_do rfl (e_sts (vs := [_, _, _, _]) st 2 rfl rfl rfl rfl rfl Tryd.sizeOf33 rfl rfl (by first | (right; assumption) | (left; simp)) ?_)
        intro w st; dsimp only [setNth, wr] at st
        refine vp_next (by first | exact st | exact st.drop (by repeat (first | exact List.Sublist.slnil | apply List.Sublist.cons_cons | apply List.Sublist.cons))) ?_; intro hS
        refine vp_end ?_
        refine vq_then ?_
        refine vc_keep [(0, _), (2, _), (3, _), (4, _)] ⟨rfl, rfl, rfl, rfl, trivial⟩ ?_
        refine vc_seq ?_
        refine vc_seq ?_
        refine vc_region ?_
        refine vc_y rfl rfl ((by first | exact y_faz (k := 1) rfl Tryd.underlying33 rfl rfl Tryd.sizeOf9 rfl | exact y_fa (k := 1) rfl Tryd.underlying33 rfl rfl Tryd.sizeOf9 rfl)) ?_
        refine vc_y rfl rfl ((by first | exact y_ld st 0 rfl Tryd.isAgg9 rfl rfl | exact y_ld st 1 rfl Tryd.isAgg9 rfl rfl | exact y_ld st 2 rfl Tryd.isAgg9 rfl rfl)) ?_
        refine vc_e (e_call [_] rfl rfl Tryd.call44 rfl (word_any _ _) ?_)
        rintro _ _ ⟨rfl, rfl⟩
        refine vc_end ?_
        refine vq_then ?_
        refine vc_keep [(0, _), (2, _), (3, _), (4, _), (64, _)] ⟨rfl, rfl, rfl, rfl, rfl, trivial⟩ ?_
        refine vc_ifs rfl ?_ ?_
        · intro hc64
          try simp only [decide_eq_true_eq, decide_eq_false_iff_not, Bool.not_eq_true', Bool.not_eq_false', Bool.not_eq_true, Bool.not_eq_false, Int.not_lt, Int.not_le, Nat.not_lt, Nat.not_le, Bool.not_true, Bool.not_false, Bool.true_eq_false, Bool.false_eq_true] at hc64
          refine vc_region ?_
          refine vc_y rfl rfl (y_fa0 rfl Tryd.underlying33 rfl rfl Tryd.sizeOf31 rfl) ?_
          first
          | refine vc_e (e_st st 0 rfl rfl rfl rfl Tryd.sizeOf31 rfl rfl (by first | (right; assumption) | (left; simp)) ?_)
          | refine vc_e (e_st st 1 rfl rfl rfl rfl Tryd.sizeOf31 rfl rfl (by first | (right; assumption) | (left; simp)) ?_)
          | refine vc_e (e_st st 2 rfl rfl rfl rfl Tryd.sizeOf31 rfl rfl (by first | (right; assumption) | (left; simp)) ?_)
          intro w st; dsimp only [setNth, wr] at st
          refine vc_end ?_
          refine vq_then ?_
          refine vc_keep [(2, _), (4, _)] ⟨rfl, rfl, trivial⟩ ?_
          refine vc_seq ?_
          refine vc_region ?_
          refine vc_y rfl rfl ((by first | exact y_lda (vs := [_, _, _, _]) st 0 rfl Tryd.isAgg33 Tryd.sizeOf33 rfl rfl | exact y_lda (vs := [_, _, _, _]) st 1 rfl Tryd.isAgg33 Tryd.sizeOf33 rfl rfl | exact y_lda (vs := [_, _, _, _]) st 2 rfl Tryd.isAgg33 Tryd.sizeOf33 rfl rfl)) ?_
          first
          | refine vc_e (e_sts (vs := [_, _, _, _]) st 0 rfl rfl rfl rfl rfl Tryd.sizeOf33 rfl rfl (by first | (right; assumption) | (left; simp)) ?_)
          | refine vc_e (e_sts (vs := [_, _, _, _]) st 1 rfl rfl rfl rfl rfl Tryd.sizeOf33 rfl rfl (by first | (right; assumption) | (left; simp)) ?_)
          | refine vc_e (e_sts (vs := [_, _, _, _]) st 2 rfl rfl rfl rfl rfl Tryd.sizeOf33 rfl rfl (by first | (right; assumption) | (left; simp)) ?_)
          intro w st; dsimp only [setNth, wr] at st
          refine vc_end ?_
          refine vq_then ?_
          refine vc_keep [(2, _)] ⟨rfl, trivial⟩ ?_
          refine vc_ret ?_
          refine vq_ret1 st (.inl rfl) Tryd.results17 (by first | exact .cell 0 rfl rfl Tryd.isAgg33 Tryd.sizeOf33 | exact .cell 1 rfl rfl Tryd.isAgg33 Tryd.sizeOf33 | exact .cell 2 rfl rfl Tryd.isAgg33 Tryd.sizeOf33) ?_
          refine ⟨_, rfl, ?_⟩
          have hlen : (List.take (j - i) (List.drop i s)).length = j - i := by simp; omega
          refine ⟨st.chg, ?_⟩
          rw [tokAt_word hi hc, hT]
          first
          | (rw [if_pos hc64]; exact ⟨rfl, by dsimp only; rw [hlen, show i + (j - i) = j from by omega]; exact st.res (i := 2) rfl⟩)
          | (rw [if_neg (by rw [hc64]; simp), if_pos (by omega)]; exact ⟨rfl, _, st.res (i := 2) rfl⟩)
          | (rw [if_neg (by rw [hc64]; simp), if_neg (by omega)]; exact ⟨rfl, by dsimp only; rw [hlen, show i + (j - i) = j from by omega]; exact st.res (i := 2) rfl⟩)
        · intro hc64
          try simp only [decide_eq_true_eq, decide_eq_false_iff_not, Bool.not_eq_true', Bool.not_eq_false', Bool.not_eq_true, Bool.not_eq_false, Int.not_lt, Int.not_le, Nat.not_lt, Nat.not_le, Bool.not_true, Bool.not_false, Bool.true_eq_false, Bool.false_eq_true] at hc64
          refine vc_seq ?_
          refine vc_region ?_
          refine vc_y rfl rfl ((by first | exact y_faz (k := 1) rfl Tryd.underlying33 rfl rfl Tryd.sizeOf9 rfl | exact y_fa (k := 1) rfl Tryd.underlying33 rfl rfl Tryd.sizeOf9 rfl)) ?_
          refine vc_y rfl rfl ((by first | exact y_ld st 0 rfl Tryd.isAgg9 rfl rfl | exact y_ld st 1 rfl Tryd.isAgg9 rfl rfl | exact y_ld st 2 rfl Tryd.isAgg9 rfl rfl)) ?_
          refine vc_y rfl rfl (y_lens rfl Tryd.underlying9) ?_
          refine vc_y rfl rfl (y_gtr rfl rfl) ?_
          refine vc_end ?_
          refine vq_then ?_
          refine vc_keep [(0, _), (2, _), (3, _), (4, _), (69, _)] ⟨rfl, rfl, rfl, rfl, rfl, trivial⟩ ?_
          refine vc_ifs rfl ?_ ?_
          · intro hc69
            try simp only [decide_eq_true_eq, decide_eq_false_iff_not, Bool.not_eq_true', Bool.not_eq_false', Bool.not_eq_true, Bool.not_eq_false, Int.not_lt, Int.not_le, Nat.not_lt, Nat.not_le, Bool.not_true, Bool.not_false, Bool.true_eq_false, Bool.false_eq_true] at hc69
            refine vc_seq ?_
            refine vc_region ?_
            refine vc_y rfl rfl (y_mv rfl) ?_
            refine vc_y rfl rfl (y_mv rfl) ?_
            refine vc_y rfl rfl (y_add rfl rfl rfl (by omega) (by omega)) ?_
            refine vc_e (e_call [_, _, _] rfl rfl Tryd.call43 rfl (wrong_any b s _ _ _ _ _ _ (st.res (i := 2) rfl)) ?_)
            rintro _ w ⟨rfl, cw, hw⟩
            replace st := st.turn (i := 2) (r' := .blk b _) rfl rfl rfl cw (.inl (by simp)) hw
            dsimp only [setNth] at st
            first
            | refine vc_e (e_sts (vs := [_, _, _, _]) st 0 rfl rfl rfl rfl rfl Tryd.sizeOf33 rfl rfl (by first | (right; assumption) | (left; simp)) ?_)
            | refine vc_e (e_sts (vs := [_, _, _, _]) st 1 rfl rfl rfl rfl rfl Tryd.sizeOf33 rfl rfl (by first | (right; assumption) | (left; simp)) ?_)
            | refine vc_e (e_sts (vs := [_, _, _, _]) st 2 rfl rfl rfl rfl rfl Tryd.sizeOf33 rfl rfl (by first | (right; assumption) | (left; simp)) ?_)
            intro w st; dsimp only [setNth, wr] at st
            refine vc_end ?_
            refine vq_then ?_
            refine vc_keep [(2, _)] ⟨rfl, trivial⟩ ?_
            refine vc_ret ?_
            refine vq_then_ret ?_
            refine vq_ret1 st (.inl rfl) Tryd.results17 (by first | exact .cell 0 rfl rfl Tryd.isAgg33 Tryd.sizeOf33 | exact .cell 1 rfl rfl Tryd.isAgg33 Tryd.sizeOf33 | exact .cell 2 rfl rfl Tryd.isAgg33 Tryd.sizeOf33) ?_
            refine ⟨_, rfl, ?_⟩
            have hlen : (List.take (j - i) (List.drop i s)).length = j - i := by simp; omega
            refine ⟨st.chg, ?_⟩
            rw [tokAt_word hi hc, hT]
            first
            | (rw [if_pos hc64]; exact ⟨rfl, by dsimp only; rw [hlen, show i + (j - i) = j from by omega]; exact st.res (i := 2) rfl⟩)
            | (rw [if_neg (by rw [hc64]; simp), if_pos (by omega)]; exact ⟨rfl, _, st.res (i := 2) rfl⟩)
            | (rw [if_neg (by rw [hc64]; simp), if_neg (by omega)]; exact ⟨rfl, by dsimp only; rw [hlen, show i + (j - i) = j from by omega]; exact st.res (i := 2) rfl⟩)
          · intro hc69
            try simp only [decide_eq_true_eq, decide_eq_false_iff_not, Bool.not_eq_true', Bool.not_eq_false', Bool.not_eq_true, Bool.not_eq_false, Int.not_lt, Int.not_le, Nat.not_lt, Nat.not_le, Bool.not_true, Bool.not_false, Bool.true_eq_false, Bool.false_eq_true] at hc69
            refine vc_code_skip ?_
            refine vq_then ?_
            refine vc_keep [(2, _), (4, _)] ⟨rfl, rfl, trivial⟩ ?_
            refine vc_seq ?_
            refine vc_region ?_
            refine vc_y rfl rfl ((by first | exact y_lda (vs := [_, _, _, _]) st 0 rfl Tryd.isAgg33 Tryd.sizeOf33 rfl rfl | exact y_lda (vs := [_, _, _, _]) st 1 rfl Tryd.isAgg33 Tryd.sizeOf33 rfl rfl | exact y_lda (vs := [_, _, _, _]) st 2 rfl Tryd.isAgg33 Tryd.sizeOf33 rfl rfl)) ?_
            first
            | refine vc_e (e_sts (vs := [_, _, _, _]) st 0 rfl rfl rfl rfl rfl Tryd.sizeOf33 rfl rfl (by first | (right; assumption) | (left; simp)) ?_)
            | refine vc_e (e_sts (vs := [_, _, _, _]) st 1 rfl rfl rfl rfl rfl Tryd.sizeOf33 rfl rfl (by first | (right; assumption) | (left; simp)) ?_)
            | refine vc_e (e_sts (vs := [_, _, _, _]) st 2 rfl rfl rfl rfl rfl Tryd.sizeOf33 rfl rfl (by first | (right; assumption) | (left; simp)) ?_)
            intro w st; dsimp only [setNth, wr] at st
            refine vc_end ?_
            refine vq_then ?_
            refine vc_keep [(2, _)] ⟨rfl, trivial⟩ ?_
            refine vc_ret ?_
            refine vq_ret1 st (.inl rfl) Tryd.results17 (by first | exact .cell 0 rfl rfl Tryd.isAgg33 Tryd.sizeOf33 | exact .cell 1 rfl rfl Tryd.isAgg33 Tryd.sizeOf33 | exact .cell 2 rfl rfl Tryd.isAgg33 Tryd.sizeOf33) ?_
            refine ⟨_, rfl, ?_⟩
            have hlen : (List.take (j - i) (List.drop i s)).length = j - i := by simp; omega
            refine ⟨st.chg, ?_⟩
            rw [tokAt_word hi hc, hT]
            first
            | (rw [if_pos hc64]; exact ⟨rfl, by dsimp only; rw [hlen, show i + (j - i) = j from by omega]; exact st.res (i := 2) rfl⟩)
            | (rw [if_neg (by rw [hc64]; simp), if_pos (by omega)]; exact ⟨rfl, _, st.res (i := 2) rfl⟩)
            | (rw [if_neg (by rw [hc64]; simp), if_neg (by omega)]; exact ⟨rfl, by dsimp only; rw [hlen, show i + (j - i) = j from by omega]; exact st.res (i := 2) rfl⟩)
  · intro hg19
    try simp only [decide_eq_true_eq, decide_eq_false_iff_not, Bool.not_eq_true', Bool.not_eq_false', Bool.not_eq_true, Bool.not_eq_false, Int.not_lt, Int.not_le, Nat.not_lt, Nat.not_le, Bool.not_true, Bool.not_false, Bool.true_eq_false, Bool.false_eq_true] at hg19
    have hT := tw_end (fun h => absurd h (by omega)) he
    refine vp_skip rfl rfl rfl hS ?_
    refine vp_skip rfl rfl rfl hS ?_
    refine vp_skip rfl rfl rfl hS ?_
    refine vp_skip rfl rfl rfl hS ?_
    refine vp_skip rfl rfl rfl hS ?_
    refine vp_skip rfl rfl rfl hS ?_
    refine vp_skip rfl rfl rfl hS ?_
    refine vp_skip rfl rfl rfl hS ?_
    refine vp_skip rfl rfl rfl hS ?_
    refine vp_do rfl (e_skip rfl rfl (vp_next hS (fun hS => ?_)))
    refine vp_skip rfl rfl rfl hS ?_
    refine vp_skip rfl rfl rfl hS ?_
    refine vp_skip rfl rfl rfl hS ?_
    refine vp_skip rfl rfl rfl hS ?_
    refine vp_skip rfl rfl rfl hS ?_
    refine vp_skip rfl rfl rfl hS ?_
    refine vp_skip rfl rfl rfl hS ?_
    refine vp_skip rfl rfl rfl hS ?_
    refine vp_skip rfl rfl rfl hS ?_
    refine vp_skip rfl rfl rfl hS ?_
    refine vp_do rfl (e_skip rfl rfl (vp_next hS (fun hS => ?_)))
    refine vp_skip rfl rfl rfl hS ?_
    refine vp_take rfl rfl rfl hS (fun w st => y_pickf rfl rfl) ?_
    refine vp_end ?_
    refine vq_then ?_
    refine vc_keep [(0, _), (2, _), (3, _), (42, _)] ⟨rfl, rfl, rfl, rfl, trivial⟩ ?_
    refine vc_iff rfl ?_
    refine vc_exit ?_
    refine vq_then_exit ?_
    refine vq_then_exit ?_
    refine vq_block_exit ?_
    refine vq_then ?_
    refine vc_keep [(0, _), (2, _), (3, _)] ⟨rfl, rfl, rfl, trivial⟩ ?_
    refine vc_seq ?_
    refine vc_draw Tryd.mixed [(0, true), (1, true), (2, true), (3, true), (4, true), (5, true), (6, true), (7, true), (8, true), (9, true), (10, true), (11, true), (12, false), (13, false)] (fun w => St _ _ [.blk b (scn s j fa fr)] w) (by first | exact st | exact st.drop (by repeat (first | exact List.Sublist.slnil | apply List.Sublist.cons_cons | apply List.Sublist.cons))) (by kernel_rfl) (by repeat (first | exact okQ_body | refine okQ_then ?_ | refine okQ_block ?_)) rfl (by kernel_rfl) ?_
    intro w cd; replace st := st.call0 cd; clear cd
    have hS : St _ _ [.blk b (scn s j fa fr)] w := (by first | exact st | exact st.drop (by repeat (first | exact List.Sublist.slnil | apply List.Sublist.cons_cons | apply List.Sublist.cons)))
    refine vp_take rfl rfl rfl hS (fun w st => y_mv rfl) ?_
    refine vp_take rfl rfl rfl hS (fun w st => y_nck rfl) ?_
    refine vp_take rfl rfl rfl hS (fun w st => y_fa0 rfl Tryd.underlying41 rfl rfl Tryd.sizeOf9 rfl) ?_
    refine vp_take rfl rfl rfl hS (fun w st => (by first | exact y_ld st 0 rfl Tryd.isAgg9 rfl rfl | exact y_ld st 1 rfl Tryd.isAgg9 rfl rfl | exact y_ld st 2 rfl Tryd.isAgg9 rfl rfl)) ?_
    refine vp_take rfl rfl rfl hS (fun w st => y_mv rfl) ?_
    refine vp_take rfl rfl rfl hS (fun w st => y_mv rfl) ?_
    refine vp_take rfl rfl rfl hS (fun w st => y_nck rfl) ?_
    refine vp_take rfl rfl rfl hS (fun w st => (by first | exact y_faz (k := 1) rfl Tryd.underlying41 rfl rfl Tryd.sizeOf3 rfl | exact y_fa (k := 1) rfl Tryd.underlying41 rfl rfl Tryd.sizeOf3 rfl)) ?_
    refine vp_take rfl rfl rfl hS (fun w st => (by first | exact y_ld st 0 rfl Tryd.isAgg3 rfl rfl | exact y_ld st 1 rfl Tryd.isAgg3 rfl rfl | exact y_ld st 2 rfl Tryd.isAgg3 rfl rfl)) ?_
    refine vp_take rfl rfl rfl hS (fun w st => y_sls (i := _) (j := _) rfl rfl rfl Tryd.underlying9 rfl rfl (by omega) (by omega)) ?_
    refine vp_take rfl rfl rfl hS (fun w st => y_mv rfl) ?_
    refine vp_take rfl rfl rfl hS (fun w st => y_bld (.agg #[_, _, _, _]) [(0, _), (1, _), (3, _)] rfl (fun w => by simp [Instr.build, go_sem] <;> repeat' constructor)) ?_
    refine vp_do rfl (e_al (l := [_, _, _, _]) st rfl rfl Tryd.zeroValue33 rfl ?_)
    intro b4 w hb4 st
    refine vp_next (by first | exact st | exact st.drop (by repeat (first | exact List.Sublist.slnil | apply List.Sublist.cons_cons | apply List.Sublist.cons))) ?_; intro hS
    first
    | refine vp_do rfl (e_sts (vs := [_, _, _, _]) st 0 rfl rfl rfl rfl rfl Tryd.sizeOf33 rfl rfl (by first | (right; assumption) | (left; simp)) ?_)
    | refine vp_do rfl (e_sts (vs := [_, _, _, _]) st 1 rfl rfl rfl rfl rfl Tryd.sizeOf33 rfl rfl (by first | (right; assumption) | (left; simp)) ?_)
    | refine vp_do rfl (e_sts (vs := [_, _, _, _]) st 2 rfl rfl rfl rfl rfl Tryd.sizeOf33 rfl rfl (by first | (right; assumption) | (left; simp)) ?_)
    intro w st; dsimp only [setNth, wr] at st
    refine vp_next (by first | exact st | exact st.drop (by repeat (first | exact List.Sublist.slnil | apply List.Sublist.cons_cons | apply List.Sublist.cons))) ?_; intro hS
    refine vp_end ?_
    refine vq_then ?_
    refine vc_keep [(0, _), (2, _), (3, _), (4, _)] ⟨rfl, rfl, rfl, rfl, trivial⟩ ?_
    refine vc_seq ?_
    refine vc_seq ?_
    refine vc_region ?_
    refine vc_y rfl rfl ((by first | exact y_faz (k := 1) rfl Tryd.underlying33 rfl rfl Tryd.sizeOf9 rfl | exact y_fa (k := 1) rfl Tryd.underlying33 rfl rfl Tryd.sizeOf9 rfl)) ?_
    refine vc_y rfl rfl ((by first | exact y_ld st 0 rfl Tryd.isAgg9 rfl rfl | exact y_ld st 1 rfl Tryd.isAgg9 rfl rfl | exact y_ld st 2 rfl Tryd.isAgg9 rfl rfl)) ?_
    refine vc_e (e_call [_] rfl rfl Tryd.call44 rfl (word_any _ _) ?_)
    rintro _ _ ⟨rfl, rfl⟩
    refine vc_end ?_
    refine vq_then ?_
    refine vc_keep [(0, _), (2, _), (3, _), (4, _), (64, _)] ⟨rfl, rfl, rfl, rfl, rfl, trivial⟩ ?_
    refine vc_ifs rfl ?_ ?_
    · intro hc64
      try simp only [decide_eq_true_eq, decide_eq_false_iff_not, Bool.not_eq_true', Bool.not_eq_false', Bool.not_eq_true, Bool.not_eq_false, Int.not_lt, Int.not_le, Nat.not_lt, Nat.not_le, Bool.not_true, Bool.not_false, Bool.true_eq_false, Bool.false_eq_true] at hc64
      refine vc_region ?_
      refine vc_y rfl rfl (y_fa0 rfl Tryd.underlying33 rfl rfl Tryd.sizeOf31 rfl) ?_
      first
      | refine vc_e (e_st st 0 rfl rfl rfl rfl Tryd.sizeOf31 rfl rfl (by first | (right; assumption) | (left; simp)) ?_)
      | refine vc_e (e_st st 1 rfl rfl rfl rfl Tryd.sizeOf31 rfl rfl (by first | (right; assumption) | (left; simp)) ?_)
      | refine vc_e (e_st st 2 rfl rfl rfl rfl Tryd.sizeOf31 rfl rfl (by first | (right; assumption) | (left; simp)) ?_)
      intro w st; dsimp only [setNth, wr] at st
      refine vc_end ?_
      refine vq_then ?_
      refine vc_keep [(2, _), (4, _)] ⟨rfl, rfl, trivial⟩ ?_
      refine vc_seq ?_
      refine vc_region ?_
      refine vc_y rfl rfl ((by first | exact y_lda (vs := [_, _, _, _]) st 0 rfl Tryd.isAgg33 Tryd.sizeOf33 rfl rfl | exact y_lda (vs := [_, _, _, _]) st 1 rfl Tryd.isAgg33 Tryd.sizeOf33 rfl rfl | exact y_lda (vs := [_, _, _, _]) st 2 rfl Tryd.isAgg33 Tryd.sizeOf33 rfl rfl)) ?_
      first
      | refine vc_e (e_sts (vs := [_, _, _, _]) st 0 rfl rfl rfl rfl rfl Tryd.sizeOf33 rfl rfl (by first | (right; assumption) | (left; simp)) ?_)
      | refine vc_e (e_sts (vs := [_, _, _, _]) st 1 rfl rfl rfl rfl rfl Tryd.sizeOf33 rfl rfl (by first | (right; assumption) | (left; simp)) ?_)
      | refine vc_e (e_sts (vs := [_, _, _, _]) st 2 rfl rfl rfl rfl rfl Tryd.sizeOf33 rfl rfl (by first | (right; assumption) | (left; simp)) ?_)
      intro w st; dsimp only [setNth, wr] at st
      refine vc_end ?_
      refine vq_then ?_
      refine vc_keep [(2, _)] ⟨rfl, trivial⟩ ?_
      refine vc_ret ?_
      refine vq_ret1 st (.inl rfl) Tryd.results17 (by first | exact .cell 0 rfl rfl Tryd.isAgg33 Tryd.sizeOf33 | exact .cell 1 rfl rfl Tryd.isAgg33 Tryd.sizeOf33 | exact .cell 2 rfl rfl Tryd.isAgg33 Tryd.sizeOf33) ?_
      refine ⟨_, rfl, ?_⟩
      have hlen : (List.take (j - i) (List.drop i s)).length = j - i := by simp; omega
      refine ⟨st.chg, ?_⟩
      rw [tokAt_word hi hc, hT]
      first
      | (rw [if_pos hc64]; exact ⟨rfl, by dsimp only; rw [hlen, show i + (j - i) = j from by omega]; exact st.res (i := 2) rfl⟩)
      | (rw [if_neg (by rw [hc64]; simp), if_pos (by omega)]; exact ⟨rfl, _, st.res (i := 2) rfl⟩)
      | (rw [if_neg (by rw [hc64]; simp), if_neg (by omega)]; exact ⟨rfl, by dsimp only; rw [hlen, show i + (j - i) = j from by omega]; exact st.res (i := 2) rfl⟩)
    · intro hc64
      try simp only [decide_eq_true_eq, decide_eq_false_iff_not, Bool.not_eq_true', Bool.not_eq_false', Bool.not_eq_true, Bool.not_eq_false, Int.not_lt, Int.not_le, Nat.not_lt, Nat.not_le, Bool.not_true, Bool.not_false, Bool.true_eq_false, Bool.false_eq_true] at hc64
      refine vc_seq ?_
      refine vc_region ?_
      refine vc_y rfl rfl ((by first | exact y_faz (k := 1) rfl Tryd.underlying33 rfl rfl Tryd.sizeOf9 rfl | exact y_fa (k := 1) rfl Tryd.underlying33 rfl rfl Tryd.sizeOf9 rfl)) ?_
      refine vc_y rfl rfl ((by first | exact y_ld st 0 rfl Tryd.isAgg9 rfl rfl | exact y_ld st 1 rfl Tryd.isAgg9 rfl rfl | exact y_ld st 2 rfl Tryd.isAgg9 rfl rfl)) ?_
      refine vc_y rfl rfl (y_lens rfl Tryd.underlying9) ?_
      refine vc_y rfl rfl (y_gtr rfl rfl) ?_
      refine vc_end ?_
      refine vq_then ?_
      refine vc_keep [(0, _), (2, _), (3, _), (4, _), (69, _)] ⟨rfl, rfl, rfl, rfl, rfl, trivial⟩ ?_
      refine vc_ifs rfl ?_ ?_
      · intro hc69
        try simp only [decide_eq_true_eq, decide_eq_false_iff_not, Bool.not_eq_true', Bool.not_eq_false', Bool.not_eq_true, Bool.not_eq_false, Int.not_lt, Int.not_le, Nat.not_lt, Nat.not_le, Bool.not_true, Bool.not_false, Bool.true_eq_false, Bool.false_eq_true] at hc69
        refine vc_seq ?_
        refine vc_region ?_
        refine vc_y rfl rfl (y_mv rfl) ?_
        refine vc_y rfl rfl (y_mv rfl) ?_
        refine vc_y rfl rfl (y_add rfl rfl rfl (by omega) (by omega)) ?_
        refine vc_e (e_call [_, _, _] rfl rfl Tryd.call43 rfl (wrong_any b s _ _ _ _ _ _ (st.res (i := 2) rfl)) ?_)
        rintro _ w ⟨rfl, cw, hw⟩
        replace st := st.turn (i := 2) (r' := .blk b _) rfl rfl rfl cw (.inl (by simp)) hw
        dsimp only [setNth] at st
        first
        | refine vc_e (e_sts (vs := [_, _, _, _]) st 0 rfl rfl rfl rfl rfl Tryd.sizeOf33 rfl rfl (by first | (right; assumption) | (left; simp)) ?_)
        | refine vc_e (e_sts (vs := [_, _, _, _]) st 1 rfl rfl rfl rfl rfl Tryd.sizeOf33 rfl rfl (by first | (right; assumption) | (left; simp)) ?_)
        | refine vc_e (e_sts (vs := [_, _, _, _]) st 2 rfl rfl rfl rfl rfl Tryd.sizeOf33 rfl rfl (by first | (right; assumption) | (left; simp)) ?_)
        intro w st; dsimp only [setNth, wr] at st
        refine vc_end ?_
        refine vq_then ?_
        refine vc_keep [(2, _)] ⟨rfl, trivial⟩ ?_
        refine vc_ret ?_
        refine vq_then_ret ?_
        refine vq_ret1 st (.inl rfl) Tryd.results17 (by first | exact .cell 0 rfl rfl Tryd.isAgg33 Tryd.sizeOf33 | exact .cell 1 rfl rfl Tryd.isAgg33 Tryd.sizeOf33 | exact .cell 2 rfl rfl Tryd.isAgg33 Tryd.sizeOf33) ?_
        refine ⟨_, rfl, ?_⟩
        have hlen : (List.take (j - i) (List.drop i s)).length = j - i := by simp; omega
        refine ⟨st.chg, ?_⟩
        rw [tokAt_word hi hc, hT]
        first
        | (rw [if_pos hc64]; exact ⟨rfl, by dsimp only; rw [hlen, show i + (j - i) = j from by omega]; exact st.res (i := 2) rfl⟩)
        | (rw [if_neg (by rw [hc64]; simp), if_pos (by omega)]; exact ⟨rfl, _, st.res (i := 2) rfl⟩)
        | (rw [if_neg (by rw [hc64]; simp), if_neg (by omega)]; exact ⟨rfl, by dsimp only; rw [hlen, show i + (j - i) = j from by omega]; exact st.res (i := 2) rfl⟩)
      · intro hc69
        try simp only [decide_eq_true_eq, decide_eq_false_iff_not, Bool.not_eq_true', Bool.not_eq_false', Bool.not_eq_true, Bool.not_eq_false, Int.not_lt, Int.not_le, Nat.not_lt, Nat.not_le, Bool.not_true, Bool.not_false, Bool.true_eq_false, Bool.false_eq_true] at hc69
        refine vc_code_skip ?_
        refine vq_then ?_
        refine vc_keep [(2, _), (4, _)] ⟨rfl, rfl, trivial⟩ ?_
        refine vc_seq ?_
        refine vc_region ?_
        refine vc_y rfl rfl ((by first | exact y_lda (vs := [_, _, _, _]) st 0 rfl Tryd.isAgg33 Tryd.sizeOf33 rfl rfl | exact y_lda (vs := [_, _, _, _]) st 1 rfl Tryd.isAgg33 Tryd.sizeOf33 rfl rfl | exact y_lda (vs := [_, _, _, _]) st 2 rfl Tryd.isAgg33 Tryd.sizeOf33 rfl rfl)) ?_
        first
        | refine vc_e (e_sts (vs := [_, _, _, _]) st 0 rfl rfl rfl rfl rfl Tryd.sizeOf33 rfl rfl (by first | (right; assumption) | (left; simp)) ?_)
        | refine vc_e (e_sts (vs := [_, _, _, _]) st 1 rfl rfl rfl rfl rfl Tryd.sizeOf33 rfl rfl (by first | (right; assumption) | (left; simp)) ?_)
        | refine vc_e (e_sts (vs := [_, _, _, _]) st 2 rfl rfl rfl rfl rfl Tryd.sizeOf33 rfl rfl (by first | (right; assumption) | (left; simp)) ?_)
        intro w st; dsimp only [setNth, wr] at st
        refine vc_end ?_
        refine vq_then ?_
        refine vc_keep [(2, _)] ⟨rfl, trivial⟩ ?_
        refine vc_ret ?_
        refine vq_ret1 st (.inl rfl) Tryd.results17 (by first | exact .cell 0 rfl rfl Tryd.isAgg33 Tryd.sizeOf33 | exact .cell 1 rfl rfl Tryd.isAgg33 Tryd.sizeOf33 | exact .cell 2 rfl rfl Tryd.isAgg33 Tryd.sizeOf33) ?_
        refine ⟨_, rfl, ?_⟩
        have hlen : (List.take (j - i) (List.drop i s)).length = j - i := by simp; omega
        refine ⟨st.chg, ?_⟩
        rw [tokAt_word hi hc, hT]
        first
        | (rw [if_pos hc64]; exact ⟨rfl, by dsimp only; rw [hlen, show i + (j - i) = j from by omega]; exact st.res (i := 2) rfl⟩)
        | (rw [if_neg (by rw [hc64]; simp), if_pos (by omega)]; exact ⟨rfl, _, st.res (i := 2) rfl⟩)
        | (rw [if_neg (by rw [hc64]; simp), if_neg (by omega)]; exact ⟨rfl, by dsimp only; rw [hlen, show i + (j - i) = j from by omega]; exact st.res (i := 2) rfl⟩)

end Go.Proofs.YtakepmhgmgpkkaaDoor
