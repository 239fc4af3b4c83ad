/- A part of the proof: contracts of functions and plain laws; each theorem says its own conditions. -/
import Derived.Test.YtggnfanphcaamaaGreatDoorParseOwnK1
import Derived.Test.YtggnfanphcaamaaGreatDoorParseOwnK7
import Derived.Test.YtggnfanphcaamaaGreatDoorParseOwnTryzShelfU
set_option linter.unusedVariables false
set_option linter.unusedSimpArgs false
namespace Go.Proofs.YtggnfanphcaamaaGreatDoor
open Go.RowKit Sx LexS _root_.Go.Proofs.Tryz
/-- the scanner's block -/
abbrev scn (s : List UInt8) (i : Int) (fa fr : Int) : Obj := .cells [str s, .int .i64 i, .int .i64 fa, .int .i64 fr].toArray 79 (0, 0)
theorem idxByte_any (l : List UInt8) (w : World) : Ret Tryz.prog 68 [str l, .int .u8 10] w fun v w' => v = .int .i64 (Lib.indexByte l 10) ∧ w' = w :=
 (Tryz.strings_IndexByte ⟨l.toArray⟩ 10 w).mono fun e w' ⟨he, hw⟩ => ⟨_, he, rfl, hw⟩
theorem hasPrefix_eq (l : List UInt8) : Lib.hasPrefix l [47, 47] = isRem l := by
 match l with
 | [] => rfl
 | [a] => simp [Lib.hasPrefix, isRem, List.isPrefixOf]
 | a :: b :: r =>
  have h : Lib.hasPrefix (a :: b :: r) [47, 47] = ((47 == a) && (47 == b)) := by simp [Lib.hasPrefix, List.isPrefixOf]
  rw [h, isRem]
  apply Bool.eq_iff_iff.2
  simp only [Bool.and_eq_true, beq_iff_eq, decide_eq_true_eq]
  exact ⟨fun ⟨h1, h2⟩ => ⟨h1.symm, h2.symm⟩, fun ⟨h1, h2⟩ => ⟨h1.symm, h2.symm⟩⟩
theorem hasRem_any (l : List UInt8) (w : World) : Ret Tryz.prog 67 [str l, str [47, 47]] w fun v w' => v = .bool (isRem l) ∧ w' = w :=
 (Tryz.strings_HasPrefix ⟨l.toArray⟩ ⟨[47, 47].toArray⟩ w).mono fun e w' ⟨he, hw⟩ => ⟨_, he, by rw [← hasPrefix_eq], hw⟩
theorem drop_cons {s : List UInt8} {j : Nat} (h : j < s.length) : s.drop j = s.getD j 0 :: s.drop (j + 1) := by
 rw [List.drop_eq_getElem_cons h]; simp [List.getD, h]
theorem over_any (b : Nat) (s : List UInt8) (i : Nat) (fa fr : Int) (w : World) (hb : w.heap[b]? = some (scn s i fa fr)) (hi : i ≤ s.length) (hs : s.length ≤ 3000000) :
    Ret Tryz.prog 55 [.pointer (some ⟨b, 0, none⟩)] w fun v w' => v = .tuple #[] ∧ Chg [b] w w' ∧ w'.heap[b]? = some (scn s ((i + skip (s.drop i) : Nat) : Int) fa fr) := by
 refine ret_of [_] func55 rfl ntmps55 rfl ?_
 have st := St.init w [b]
 replace st := St.of1 [b] hb
 refine vc_block ?_
 refine vc_loop (w0 := _) (M := _) (fun _ => [(0, .pointer (some ⟨b, 0, none⟩))]) (fun (j : Nat) => [.blk b (scn s j fa fr)]) (fun j _ => j ≤ s.length ∧ j + skip (s.drop j) = i + skip (s.drop i)) (fun j => s.length - j) i ⟨rfl, trivial⟩ st ⟨hi, rfl⟩ ?_
 rintro j w ⟨hj, he⟩ st
 refine vc_seq (vc_seq ?_)
 refine vc_draw Tryz.mixed [(0, true), (1, true), (2, true), (3, true), (4, true), (5, true), (6, true), (7, true), (8, true), (9, true)] (fun w => St _ _ _ w) st (by kernel_rfl) (by repeat (first | exact okQ_body | refine okQ_then ?_ | refine okQ_block ?_)) rfl (by kernel_rfl) ?_
 intro w cd; replace st := st.call0 cd; clear cd
 have hS := st
 refine pm hS ?_
 refine pnk hS ?_
 refine pfz hS 1 underlying79 sizeOf3 ?_
 refine pld hS 0 isAgg3 ?_
 refine pm hS ?_
 refine pnk hS ?_
 refine pf0 hS underlying79 sizeOf9 ?_
 refine pld hS 0 isAgg9 ?_
 refine vp_take rfl rfl rfl hS (fun w st => y_lens rfl underlying9) ?_
 refine vp_take rfl rfl rfl hS (fun w st => y_lss rfl rfl) ?_
 refine vp_end (vq_then (vk2 0 12 ?_))
 refine vif ?_ ?_
 ·intro hc12
  try simp only [dn] at hc12
  have hd := drop_cons (s := s) (j := j) (by omega)
  refine kt (vk1 0 (vc_block (vc_block (vc_seq ?_))))
  refine vc_draw Tryz.mixed [(0, true), (1, true), (2, true), (3, true), (4, true), (5, true), (6, true), (7, true), (8, true), (9, false), (10, true)] (fun w => St _ _ _ w) st (by kernel_rfl) (by repeat (first | exact okQ_body | refine okQ_then ?_ | refine okQ_block ?_)) rfl (by kernel_rfl) ?_
  intro w cd; replace st := st.call0 cd; clear cd
  have hS := st
  refine pm hS ?_
  refine pnk hS ?_
  refine pf0 hS underlying79 sizeOf9 ?_
  refine pld hS 0 isAgg9 ?_
  refine pm hS ?_
  refine pnk hS ?_
  refine pfz hS 1 underlying79 sizeOf3 ?_
  refine pld hS 0 isAgg3 ?_
  refine vp_take rfl rfl rfl hS (fun w st => y_ixs (k := _) rfl rfl underlying9 rfl (by omega)) ?_
  refine vp_do rfl (e_call [_] rfl rfl call66 rfl (blank_any _ _) ?_)
  rintro _ _ ⟨rfl, rfl⟩
  refine vp_next (by exact st) ?_; intro hS
  refine vp_take rfl rfl rfl hS (fun w st => y_as rfl) ?_
  refine vp_end (vq_then (vk2 0 13 ?_))
  refine vif ?_ ?_
  ·intro hc13
   try simp only [dn] at hc13
   refine vc_region ?_
   refine ym ?_
   refine ynk ?_
   refine yfz 1 underlying79 sizeOf3 ?_
   refine yl st 0 isAgg3 ?_
   refine vy (y_add rfl rfl rfl (by omega) (by omega)) ?_
   refine ynk ?_
   refine yfz 1 underlying79 sizeOf3 ?_
   first
   | refine vc_e (e_st st 0 rfl rfl rfl rfl sizeOf3 rfl rfl (by (left; simp)) ?_)
   intro w st; dsimp only [setNth, wr] at st
   refine vc_end (vq_block (vq_block ?_))
   refine vq_again (j + 1)  ⟨rfl, trivial⟩ st ?_ ?_
   ·exact ⟨by omega, by rw [hd, skip_blank hc13] at he; omega⟩
   omega
  intro hc13
  try simp only [dn] at hc13
  refine vc_seq ?_
  refine vc_draw Tryz.mixed [(0, true), (1, true), (2, true), (3, true), (4, true), (5, true), (6, true), (7, true), (8, true), (9, false), (10, true)] (fun w => St _ _ _ w) st (by kernel_rfl) (by repeat (first | exact okQ_body | refine okQ_then ?_ | refine okQ_block ?_)) rfl (by kernel_rfl) ?_
  intro w cd; replace st := st.call0 cd; clear cd
  have hS := st
  refine pm hS ?_
  refine pnk hS ?_
  refine pf0 hS underlying79 sizeOf9 ?_
  refine pld hS 0 isAgg9 ?_
  refine pm hS ?_
  refine pnk hS ?_
  refine pfz hS 1 underlying79 sizeOf3 ?_
  refine pld hS 0 isAgg3 ?_
  refine vp_take rfl rfl rfl hS (fun w st => y_slf (i := _) rfl rfl underlying9 rfl (by omega)) ?_
  refine vp_do rfl (e_call [_, _] rfl rfl call67 rfl (hasRem_any _ _) ?_)
  rintro _ _ ⟨rfl, rfl⟩
  refine vp_next (by exact st) ?_; intro hS
  refine vp_take rfl rfl rfl hS (fun w st => y_as rfl) ?_
  refine vp_end (vq_then (vk2 0 31 ?_))
  refine vif ?_ ?_
  ·intro hc31
   try simp only [dn] at hc31
   refine vc_seq ?_
   refine vc_draw Tryz.mixed [(0, true), (1, true), (2, true), (3, true), (4, true), (5, true), (6, true), (7, true), (8, true), (9, false), (10, true)] (fun w => St _ _ _ w) st (by kernel_rfl) (by repeat (first | exact okQ_body | refine okQ_then ?_ | refine okQ_block ?_)) rfl (by kernel_rfl) ?_
   intro w cd; replace st := st.call0 cd; clear cd
   have hS := st
   refine pm hS ?_
   refine pnk hS ?_
   refine pf0 hS underlying79 sizeOf9 ?_
   refine pld hS 0 isAgg9 ?_
   refine pm hS ?_
   refine pnk hS ?_
   refine pfz hS 1 underlying79 sizeOf3 ?_
   refine pld hS 0 isAgg3 ?_
   refine vp_take rfl rfl rfl hS (fun w st => y_slf (i := _) rfl rfl underlying9 rfl (by omega)) ?_
   refine vp_do rfl (e_call [_, _] rfl rfl call68 rfl (idxByte_any _ _) ?_)
   rintro _ _ ⟨rfl, rfl⟩
   have hle := toLf_le (s.drop j)
   simp only [List.length_drop] at hle
   have hn := indexByte_lf (s.drop j)
   simp only [List.length_drop] at hn
   refine vp_next (by exact st) ?_; intro hS
   refine vp_take rfl rfl rfl hS (fun w st => y_as rfl) ?_
   refine vp_end (vq_then (vk2 0 2 (vc_seq (sr ?_))))
   refine ym ?_
   refine vy (y_lss rfl rfl) ?_
   refine et (vk3 0 2 53 ?_)
   refine vif ?_ ?_
   intro hc53
   try simp only [dn] at hc53
   refine vc_draw Tryz.mixed [(0, true), (1, true), (2, true), (3, true), (4, true), (5, true), (6, true), (7, true), (8, true), (9, true), (10, true)] (fun w => St _ _ _ w) st (by kernel_rfl) (by repeat (first | exact okQ_body | refine okQ_then ?_ | refine okQ_block ?_)) rfl (by kernel_rfl) ?_
   intro w cd; replace st := st.call0 cd; clear cd
   have hS := st
   refine pm hS ?_
   refine pnk hS ?_
   refine pf0 hS underlying79 sizeOf9 ?_
   refine pld hS 0 isAgg9 ?_
   refine vp_take rfl rfl rfl hS (fun w st => y_lens rfl underlying9) ?_
   refine pm hS ?_
   refine pnk hS ?_
   refine pfz hS 1 underlying79 sizeOf3 ?_
   refine pld hS 0 isAgg3 ?_
   refine vp_take rfl rfl rfl hS (fun w st => y_sub rfl rfl rfl (by omega) (by omega)) ?_
   refine vp_take rfl rfl rfl hS (fun w st => y_as rfl) ?_
   refine vp_end ?_
   rotate_left
   intro hc53
   try simp only [dn] at hc53
   refine vc_code_skip ?_
   all_goals
    refine vq_then (vk2 0 2 (vc_region ?_))
    refine ym ?_
    refine ynk ?_
    refine yfz 1 underlying79 sizeOf3 ?_
    refine yl st 0 isAgg3 ?_
    refine ym ?_
    refine vy (y_add rfl rfl (by omega : _ = ((j + toLf (List.drop j s) : Nat) : Int)) (by omega) (by omega)) ?_
    refine ynk ?_
    refine yfz 1 underlying79 sizeOf3 ?_
    first
    | refine vc_e (e_st st 0 rfl rfl rfl rfl sizeOf3 rfl rfl (by (left; simp)) ?_)
    intro w st; dsimp only [setNth, wr] at st
    refine vc_end (vq_block (vq_block ?_))
    refine vq_again (j + toLf (List.drop j s))  ⟨rfl, trivial⟩ st ?_ ?_
    ·exact ⟨by omega, by rw [skip_rem hc31, List.drop_drop] at he; omega⟩
    ·have := toLf_pos hc31; omega
  intro hc31
  try simp only [dn] at hc31
  refine vc_ret (vq_block_ret (vq_block_ret (vq_then_ret (vq_block_ret ?_))))
  refine vq_ret0 (.inl rfl) results55 ?_
  refine ⟨_, rfl, ?_⟩
  exact ⟨rfl, st.chg, by have h := st.res (i := 0) rfl; rw [hd] at hc31; rw [hd, skip_other hc13 hc31] at he; rw [show i + skip (List.drop i s) = j by omega]; exact h⟩
 intro hc12
 try simp only [dn] at hc12
 obtain rfl : j = s.length := by omega
 simp only [List.drop_length, skip_nil] at he
 refine vc_exit (vq_then_exit (vq_then_exit (vq_block_exit ?_)))
 refine vq_ret0 (.inr rfl) results55 ?_
 refine ⟨_, rfl, ?_⟩
 exact ⟨rfl, st.chg, by have h := st.res (i := 0) rfl; rw [show i + skip (List.drop i s) = s.length by omega]; exact h⟩
end Go.Proofs.YtggnfanphcaamaaGreatDoor


namespace Go.Proofs.YtggnfanphcaamaaGreatDoor
open Go.RowKit Sx LexS _root_.Go.Proofs.Tryz
abbrev tokL (t : Tok) : List Value := [.int .u8 (t.kind : Int), str t.text, .int .i64 (t.word : Int), .int .i64 (t.at_ : Int)]
abbrev zeroL : List Value := [.int .u8 0, str [], .int .i64 0, .int .i64 0]
/-- what a reader of tokens leaves -/
def RdPost (b : Nat) (s : List UInt8) (i : Nat) (fa fr : Int) (res : TokR) (v : Value) (w' : World) : Prop := match res with
 | .tok t => v = .agg (tokL t).toArray ∧ w'.heap[b]? = some (scn s ((i + t.text.length : Nat) : Int) fa fr)
 | .bad rule p => v = .agg zeroL.toArray ∧ ∃ j : Int, w'.heap[b]? = some (scn s j (p : Int) (rule : Int))
theorem tokAt_word {s : List UInt8} {i : Nat} (h : i < s.length) (hc : isLetter (s.getD i 0) = true) : tokAt (s.drop i) i =
    if isWord ((s.drop i).takeWhile isIdent) then .tok ⟨2, (s.drop i).takeWhile isIdent, 0, i⟩ else if 32 < ((s.drop i).takeWhile isIdent).length then .bad 2 (i + 32) else .tok ⟨1, (s.drop i).takeWhile isIdent, 0, i⟩ := by
 rw [drop_cons h]; simp only [tokAt, hc, if_true]
theorem tw_step {p : UInt8 → Bool} {s : List UInt8} {i j : Nat} (hij : i ≤ j) (hj : j < s.length) (hp : p (s.getD j 0) = true)
    (h : (s.drop i).takeWhile p = (s.drop i).take (j - i) ++ (s.drop j).takeWhile p) : (s.drop i).takeWhile p = (s.drop i).take (j + 1 - i) ++ (s.drop (j + 1)).takeWhile p := by
 rw [h, drop_cons hj, List.takeWhile_cons, if_pos hp, show j + 1 - i = (j - i) + 1 from by omega, List.take_succ_eq_append_getElem (by simp; omega)]
 simp [List.getD, hj, show i + (j - i) = j from by omega]
theorem tw_end {p : UInt8 → Bool} {s : List UInt8} {i j : Nat} (hp : j < s.length → p (s.getD j 0) = false)
    (h : (s.drop i).takeWhile p = (s.drop i).take (j - i) ++ (s.drop j).takeWhile p) : (s.drop i).takeWhile p = (s.drop i).take (j - i) := by
 by_cases hj : j < s.length
 ·rw [h, drop_cons hj, List.takeWhile_cons, hp hj]; simp
 ·have e : s.drop j = [] := List.drop_eq_nil_of_le (by omega)
  rw [h, e]; simp
theorem isIdent_of (c : UInt8) (h : isLetter c = true ∨ isDigit c = true) : isIdent c = true := by unfold isIdent; rcases h with h | h <;> simp [h]
theorem isIdent_no (c : UInt8) (h : isLetter c = false) (h' : isDigit c = false) : isIdent c = false := by unfold isIdent; simp [h, h']

theorem wrong_any (b : Nat) (s : List UInt8) (i fa fr at_ rule : Int) (w : World) (hb : w.heap[b]? = some (scn s i fa fr)) :
    Ret Tryz.prog 70 [.pointer (some ⟨b, 0, none⟩), .int .i64 at_, .int .i64 rule] w fun v w' => v = .agg zeroL.toArray ∧ Chg [b] w w' ∧ w'.heap[b]? = some (scn s i at_ rule) := by
 refine ret_of [_, _, _] func70 rfl ntmps70 rfl ?_
 have st := St.init w [b]
 replace st := St.of1 [b] hb
 refine sr ?_
 refine vc_e (e_al (l := [_, _, _, _]) st rfl rfl zeroValue82 rfl ?_)
 intro b6 w hb6 st
 refine et (vk4 0 1 2 6 (sr ?_))
 iterate 3 refine ym ?_
 refine vy (y_bld (.agg #[_, _]) [(0, _), (1, _)] rfl (fun w => by simp [Instr.build, go_sem] <;> repeat' constructor)) ?_
 refine ynk ?_
 refine yfz 2 underlying79 sizeOf28 ?_
 refine vc_e (e_sts (vs := [_, _]) st 1 rfl rfl rfl rfl rfl sizeOf28 rfl rfl (by (left; simp)) ?_)
 intro w st
 refine et (vk1 6 (sr ?_))
 refine vy (y_bld (.agg #[_, _, _, _]) [] rfl (fun w => by simp [Instr.build, go_sem] <;> repeat' constructor)) ?_
 refine vc_e (e_sts (vs := [_, _, _, _]) st 0 rfl rfl rfl rfl rfl sizeOf82 rfl rfl (by (right; assumption)) ?_)
 intro w st
 refine et (vk1 6 (vc_ret ?_))
 refine vq_ret1 st (.inl rfl) results70 (by exact .cell 0 rfl rfl isAgg82 sizeOf82) ?_
 refine ⟨_, rfl, ?_⟩
 exact ⟨rfl, st.chg, st.res (i := 1) rfl⟩
theorem word_rd (b : Nat) (s : List UInt8) (i : Nat) (fa fr : Int) (w : World) (hb : w.heap[b]? = some (scn s i fa fr)) (hi : i < s.length) (hs : s.length ≤ 3000000) (hc : isLetter (s.getD i 0) = true) :
    Ret Tryz.prog 57 [.pointer (some ⟨b, 0, none⟩)] w fun v w' => Chg [b] w w' ∧ RdPost b s i fa fr (tokAt (s.drop i) i) v w' := by
 refine ret_of [_] func57 rfl ntmps57 rfl ?_
 have st := St.init w [b]
 replace st := St.of1 [b] hb
 refine sr ?_
 refine vc_e (e_al (l := [_, _, _, _]) st rfl rfl zeroValue82 rfl ?_)
 intro b2 w hb2 st
 refine et (vk2 0 2 (sr ?_))
 refine ym ?_
 refine ynk ?_
 refine yfz 1 underlying79 sizeOf3 ?_
 refine yl st 1 isAgg3 ?_
 refine ya ?_
 refine et (vk3 0 2 3 (vc_seq (vc_block ?_)))
 refine vc_loop (w0 := _) (M := _) (fun _ => [(0, .pointer (some ⟨b, 0, none⟩)), (2, .pointer (some ⟨b2, 0, none⟩)), (3, .int .i64 (i : Int))]) (fun (j : Nat) => [.blk b2 (.cells zeroL.toArray 82 (0, 0)), .blk b (scn s j fa fr)]) (fun j _ => i ≤ j ∧ j ≤ s.length ∧ (s.drop i).takeWhile isIdent = (s.drop i).take (j - i) ++ (s.drop j).takeWhile isIdent) (fun j => s.length - j) i ⟨rfl, rfl, rfl, trivial⟩ st ⟨by omega, by omega, by simp⟩ ?_
 rintro j w ⟨hij, hj, he⟩ st
 refine vc_seq (vc_seq ?_)
 refine vc_draw Tryz.mixed [(0, true), (1, true), (2, true), (3, true), (4, true), (5, true), (6, true), (7, true), (8, true), (9, true), (10, true), (11, true), (12, true), (13, true), (14, true), (15, true), (16, true), (17, true), (18, true), (19, true), (20, false), (21, true), (22, true), (23, true), (24, true), (25, true), (26, true), (27, true), (28, true), (29, true), (30, true), (31, false), (32, true), (33, true)] (fun w => St _ _ _ w) st (by kernel_rfl) (by repeat (first | exact okQ_body | refine okQ_then ?_ | refine okQ_block ?_)) rfl (by kernel_rfl) ?_
 intro w cd; replace st := st.call0 cd; clear cd
 have hS := st
 refine pm hS ?_
 refine pnk hS ?_
 refine pfz hS 1 underlying79 sizeOf3 ?_
 refine pld hS 1 isAgg3 ?_
 refine pm hS ?_
 refine pnk hS ?_
 refine pf0 hS underlying79 sizeOf9 ?_
 refine pld hS 1 isAgg9 ?_
 refine vp_take rfl rfl rfl hS (fun w st => y_lens rfl underlying9) ?_
 refine vp_take rfl rfl rfl hS (fun w st => y_lss rfl rfl) ?_
 refine vp_part rfl rfl rfl hS rfl ?_ ?_
 ·intro hg19
  try simp only [dn] at hg19
  refine pm hS ?_
  refine pnk hS ?_
  refine pf0 hS underlying79 sizeOf9 ?_
  refine pld hS 1 isAgg9 ?_
  refine pm hS ?_
  refine pnk hS ?_
  refine pfz hS 1 underlying79 sizeOf3 ?_
  refine pld hS 1 isAgg3 ?_
  refine vp_take rfl rfl rfl hS (fun w st => y_ixs (k := _) rfl rfl underlying9 rfl (by omega)) ?_
  refine vp_do rfl (e_call [_] rfl rfl call59 rfl (letter_any _ _) ?_)
  rintro _ _ ⟨rfl, rfl⟩
  refine vp_next (by exact st) ?_; intro hS
  refine vp_part rfl rfl rfl hS rfl ?_ ?_
  ·intro hg30
   try simp only [dn] at hg30
   iterate 9 refine vp_skip rfl rfl rfl hS ?_
   refine vp_do rfl (e_skip rfl rfl (vp_next hS (fun hS => ?_)))
   iterate 2 refine vp_take rfl rfl rfl hS (fun w st => y_pickt rfl rfl) ?_
   refine vp_end (vq_then (vk4 0 2 3 42 ?_))
   refine vc_ift rfl ?_
   refine kt (vk3 0 2 3 (vc_block (vc_region ?_)))
   refine ym ?_
   refine ynk ?_
   refine yfz 1 underlying79 sizeOf3 ?_
   refine yl st 1 isAgg3 ?_
   refine vy (y_add rfl rfl rfl (by omega) (by omega)) ?_
   refine ynk ?_
   refine yfz 1 underlying79 sizeOf3 ?_
   refine vc_e (e_st st 1 rfl rfl rfl rfl sizeOf3 rfl rfl (by (left; simp)) ?_)
   intro w st; dsimp only [setNth, wr] at st
   refine vc_end (vq_block ?_)
   refine vq_again (j + 1)  ⟨rfl, rfl, rfl, trivial⟩ st ?_ ?_
   ·exact ⟨by omega, by omega, tw_step hij (by omega) (isIdent_of _ (by (left; assumption))) he⟩
   omega
  intro hg30
  try simp only [dn] at hg30
  refine pm hS ?_
  refine pnk hS ?_
  refine pf0 hS underlying79 sizeOf9 ?_
  refine pld hS 1 isAgg9 ?_
  refine pm hS ?_
  refine pnk hS ?_
  refine pfz hS 1 underlying79 sizeOf3 ?_
  refine pld hS 1 isAgg3 ?_
  refine vp_take rfl rfl rfl hS (fun w st => y_ixs (k := _) rfl rfl underlying9 rfl (by omega)) ?_
  refine vp_do rfl (e_call [_] rfl rfl call60 rfl (digit_any _ _) ?_)
  rintro _ _ ⟨rfl, rfl⟩
  refine vp_next (by exact st) ?_; intro hS
  refine vp_take rfl rfl rfl hS (fun w st => y_pickf rfl rfl) ?_
  refine vp_take rfl rfl rfl hS (fun w st => y_pickt rfl rfl) ?_
  refine vp_end (vq_then (vk4 0 2 3 42 ?_))
  refine vif ?_ ?_
  ·intro hc42
   try simp only [dn] at hc42
   refine kt (vk3 0 2 3 (vc_block (vc_region ?_)))
   refine ym ?_
   refine ynk ?_
   refine yfz 1 underlying79 sizeOf3 ?_
   refine yl st 1 isAgg3 ?_
   refine vy (y_add rfl rfl rfl (by omega) (by omega)) ?_
   refine ynk ?_
   refine yfz 1 underlying79 sizeOf3 ?_
   refine vc_e (e_st st 1 rfl rfl rfl rfl sizeOf3 rfl rfl (by (left; simp)) ?_)
   intro w st; dsimp only [setNth, wr] at st
   refine vc_end (vq_block ?_)
   refine vq_again (j + 1)  ⟨rfl, rfl, rfl, trivial⟩ st ?_ ?_
   ·exact ⟨by omega, by omega, tw_step hij (by omega) (isIdent_of _ (by (right; assumption))) he⟩
   omega
  intro hc42
  try simp only [dn] at hc42
  have hT := tw_end (fun _ => isIdent_no _ (by assumption) (by assumption)) he
  refine vc_exit (vq_then_exit (vq_then_exit (vq_block_exit (vq_then (vk3 0 2 3 (vc_seq ?_))))))
  refine vc_draw Tryz.mixed [(0, true), (1, true), (2, true), (3, true), (4, true), (5, true), (6, true), (7, true), (8, true), (9, true), (10, true), (11, true), (12, false), (13, false)] (fun w => St _ _ [.blk b (scn s j fa fr)] w) st.dr (by kernel_rfl) (by repeat (first | exact okQ_body | refine okQ_then ?_ | refine okQ_block ?_)) rfl (by kernel_rfl) ?_
  intro w cd; replace st := st.call0 cd; clear cd
  have hS : St _ _ [.blk b (scn s j fa fr)] w := st.dr
  refine pm hS ?_
  refine pnk hS ?_
  refine pf0 hS underlying79 sizeOf9 ?_
  refine pld hS 0 isAgg9 ?_
  iterate 2 refine pm hS ?_
  refine pnk hS ?_
  refine pfz hS 1 underlying79 sizeOf3 ?_
  refine pld hS 0 isAgg3 ?_
  refine vp_take rfl rfl rfl hS (fun w st => y_sls (i := _) (j := _) rfl rfl rfl underlying9 rfl rfl (by omega) (by omega)) ?_
  refine pm hS ?_
  refine vp_take rfl rfl rfl hS (fun w st => y_bld (.agg #[_, _, _, _]) [(0, _), (1, _), (3, _)] rfl (fun w => by simp [Instr.build, go_sem] <;> repeat' constructor)) ?_
  refine vp_do rfl (e_al (l := [_, _, _, _]) st rfl rfl zeroValue82 rfl ?_)
  intro b4 w hb4 st
  refine vp_next st.dr ?_; intro hS
  refine vp_do rfl (e_sts (vs := [_, _, _, _]) st 0 rfl rfl rfl rfl rfl sizeOf82 rfl rfl (by (right; assumption)) ?_)
  intro w st; dsimp only [setNth, wr] at st
  refine vp_next st.dr ?_; intro hS
  refine vp_end (vq_then (vk4 0 2 3 4 (vc_seq (sr ?_))))
  refine yfz 1 underlying82 sizeOf9 ?_
  refine yl st 0 isAgg9 ?_
  refine vc_e (e_call [_] rfl rfl call71 rfl (word_any _ _) ?_)
  rintro _ _ ⟨rfl, rfl⟩
  refine et (vk5 0 2 3 4 64 ?_)
  refine vif ?_ ?_
  intro hc64
  try simp only [dn] at hc64
  refine vc_region ?_
  refine vy (y_fa0 rfl underlying82 rfl rfl sizeOf80 rfl) ?_
  refine vc_e (e_st st 0 rfl rfl rfl rfl sizeOf80 rfl rfl (by (right; assumption)) ?_)
  intro w st; dsimp only [setNth, wr] at st
  refine et (vk2 2 4 (sr ?_))
  refine yla st 0 [_, _, _, _] isAgg82 sizeOf82 ?_
  refine vc_e (e_sts (vs := [_, _, _, _]) st 1 rfl rfl rfl rfl rfl sizeOf82 rfl rfl (by (right; assumption)) ?_)
  intro w st; dsimp only [setNth, wr] at st
  refine et (vk1 2 (vc_ret ?_))
  rotate_left
  focus
   intro hc64
   try simp only [dn] at hc64
   refine sr ?_
   refine yfz 1 underlying82 sizeOf9 ?_
   refine yl st 0 isAgg9 ?_
   refine vy (y_lens rfl underlying9) ?_
   refine vy (y_gtr rfl rfl) ?_
   refine et (vk5 0 2 3 4 69 ?_)
   refine vif ?_ ?_
   intro hc69
   try simp only [dn] at hc69
   refine sr ?_
   iterate 2 refine ym ?_
   refine vy (y_add rfl rfl rfl (by omega) (by omega)) ?_
   refine vc_e (e_call [_, _, _] rfl rfl call70 rfl (wrong_any b s _ _ _ _ _ _ (st.res (i := 2) rfl)) ?_)
   rintro _ w ⟨rfl, cw, hw⟩
   replace st := st.turn (i := 2) (r' := .blk b _) rfl rfl rfl cw (.inl (by simp)) hw
   dsimp only [setNth] at st
   refine vc_e (e_sts (vs := [_, _, _, _]) st 1 rfl rfl rfl rfl rfl sizeOf82 rfl rfl (by (right; assumption)) ?_)
   intro w st; dsimp only [setNth, wr] at st
   refine et (vk1 2 (vc_ret (vq_then_ret ?_)))
   rotate_left
   intro hc69
   try simp only [dn] at hc69
   refine kt (vk2 2 4 (sr ?_))
   refine yla st 0 [_, _, _, _] isAgg82 sizeOf82 ?_
   refine vc_e (e_sts (vs := [_, _, _, _]) st 1 rfl rfl rfl rfl rfl sizeOf82 rfl rfl (by (right; assumption)) ?_)
   intro w st; dsimp only [setNth, wr] at st
   refine et (vk1 2 (vc_ret ?_))
  all_goals
   refine vq_ret1 st (.inl rfl) results57 (by exact .cell 1 rfl rfl isAgg82 sizeOf82) ?_
   refine ⟨_, rfl, ?_⟩
   have hlen : (List.take (j - i) (List.drop i s)).length = j - i := by simp; omega
   refine ⟨st.chg, ?_⟩
   rw [tokAt_word hi hc, hT]
   first
   | (rw [if_pos hc64]; exact ⟨rfl, by dsimp only; rw [hlen, show i + (j - i) = j from by omega]; exact st.res (i := 2) rfl⟩)
   | (rw [if_neg (by rw [hc64]; simp), if_pos (by omega)]; exact ⟨rfl, _, st.res (i := 2) rfl⟩)
   | (rw [if_neg (by rw [hc64]; simp), if_neg (by omega)]; exact ⟨rfl, by dsimp only; rw [hlen, show i + (j - i) = j from by omega]; exact st.res (i := 2) rfl⟩)
 intro hg19
 try simp only [dn] at hg19
 have hT := tw_end (fun h => absurd h (by omega)) he
 iterate 9 refine vp_skip rfl rfl rfl hS ?_
 refine vp_do rfl (e_skip rfl rfl (vp_next hS (fun hS => ?_)))
 iterate 10 refine vp_skip rfl rfl rfl hS ?_
 refine vp_do rfl (e_skip rfl rfl (vp_next hS (fun hS => ?_)))
 refine vp_skip rfl rfl rfl hS ?_
 refine vp_take rfl rfl rfl hS (fun w st => y_pickf rfl rfl) ?_
 refine vp_end (vq_then (vk4 0 2 3 42 ?_))
 refine vc_iff rfl ?_
 refine vc_exit (vq_then_exit (vq_then_exit (vq_block_exit (vq_then (vk3 0 2 3 (vc_seq ?_))))))
 refine vc_draw Tryz.mixed [(0, true), (1, true), (2, true), (3, true), (4, true), (5, true), (6, true), (7, true), (8, true), (9, true), (10, true), (11, true), (12, false), (13, false)] (fun w => St _ _ [.blk b (scn s j fa fr)] w) st.dr (by kernel_rfl) (by repeat (first | exact okQ_body | refine okQ_then ?_ | refine okQ_block ?_)) rfl (by kernel_rfl) ?_
 intro w cd; replace st := st.call0 cd; clear cd
 have hS : St _ _ [.blk b (scn s j fa fr)] w := st.dr
 refine pm hS ?_
 refine pnk hS ?_
 refine pf0 hS underlying79 sizeOf9 ?_
 refine pld hS 0 isAgg9 ?_
 iterate 2 refine pm hS ?_
 refine pnk hS ?_
 refine pfz hS 1 underlying79 sizeOf3 ?_
 refine pld hS 0 isAgg3 ?_
 refine vp_take rfl rfl rfl hS (fun w st => y_sls (i := _) (j := _) rfl rfl rfl underlying9 rfl rfl (by omega) (by omega)) ?_
 refine pm hS ?_
 refine vp_take rfl rfl rfl hS (fun w st => y_bld (.agg #[_, _, _, _]) [(0, _), (1, _), (3, _)] rfl (fun w => by simp [Instr.build, go_sem] <;> repeat' constructor)) ?_
 refine vp_do rfl (e_al (l := [_, _, _, _]) st rfl rfl zeroValue82 rfl ?_)
 intro b4 w hb4 st
 refine vp_next st.dr ?_; intro hS
 refine vp_do rfl (e_sts (vs := [_, _, _, _]) st 0 rfl rfl rfl rfl rfl sizeOf82 rfl rfl (by (right; assumption)) ?_)
 intro w st; dsimp only [setNth, wr] at st
 refine vp_next st.dr ?_; intro hS
 refine vp_end (vq_then (vk4 0 2 3 4 (vc_seq (sr ?_))))
 refine yfz 1 underlying82 sizeOf9 ?_
 refine yl st 0 isAgg9 ?_
 refine vc_e (e_call [_] rfl rfl call71 rfl (word_any _ _) ?_)
 rintro _ _ ⟨rfl, rfl⟩
 refine et (vk5 0 2 3 4 64 ?_)
 refine vif ?_ ?_
 intro hc64
 try simp only [dn] at hc64
 refine vc_region ?_
 refine vy (y_fa0 rfl underlying82 rfl rfl sizeOf80 rfl) ?_
 refine vc_e (e_st st 0 rfl rfl rfl rfl sizeOf80 rfl rfl (by (right; assumption)) ?_)
 intro w st; dsimp only [setNth, wr] at st
 refine et (vk2 2 4 (sr ?_))
 refine yla st 0 [_, _, _, _] isAgg82 sizeOf82 ?_
 refine vc_e (e_sts (vs := [_, _, _, _]) st 1 rfl rfl rfl rfl rfl sizeOf82 rfl rfl (by (right; assumption)) ?_)
 intro w st; dsimp only [setNth, wr] at st
 refine et (vk1 2 (vc_ret ?_))
 rotate_left
 focus
  intro hc64
  try simp only [dn] at hc64
  refine sr ?_
  refine yfz 1 underlying82 sizeOf9 ?_
  refine yl st 0 isAgg9 ?_
  refine vy (y_lens rfl underlying9) ?_
  refine vy (y_gtr rfl rfl) ?_
  refine et (vk5 0 2 3 4 69 ?_)
  refine vif ?_ ?_
  intro hc69
  try simp only [dn] at hc69
  refine sr ?_
  iterate 2 refine ym ?_
  refine vy (y_add rfl rfl rfl (by omega) (by omega)) ?_
  refine vc_e (e_call [_, _, _] rfl rfl call70 rfl (wrong_any b s _ _ _ _ _ _ (st.res (i := 2) rfl)) ?_)
  rintro _ w ⟨rfl, cw, hw⟩
  replace st := st.turn (i := 2) (r' := .blk b _) rfl rfl rfl cw (.inl (by simp)) hw
  dsimp only [setNth] at st
  refine vc_e (e_sts (vs := [_, _, _, _]) st 1 rfl rfl rfl rfl rfl sizeOf82 rfl rfl (by (right; assumption)) ?_)
  intro w st; dsimp only [setNth, wr] at st
  refine et (vk1 2 (vc_ret (vq_then_ret ?_)))
  rotate_left
  intro hc69
  try simp only [dn] at hc69
  refine kt (vk2 2 4 (sr ?_))
  refine yla st 0 [_, _, _, _] isAgg82 sizeOf82 ?_
  refine vc_e (e_sts (vs := [_, _, _, _]) st 1 rfl rfl rfl rfl rfl sizeOf82 rfl rfl (by (right; assumption)) ?_)
  intro w st; dsimp only [setNth, wr] at st
  refine et (vk1 2 (vc_ret ?_))
 all_goals
  refine vq_ret1 st (.inl rfl) results57 (by exact .cell 1 rfl rfl isAgg82 sizeOf82) ?_
  refine ⟨_, rfl, ?_⟩
  have hlen : (List.take (j - i) (List.drop i s)).length = j - i := by simp; omega
  refine ⟨st.chg, ?_⟩
  rw [tokAt_word hi hc, hT]
  first
  | (rw [if_pos hc64]; exact ⟨rfl, by dsimp only; rw [hlen, show i + (j - i) = j from by omega]; exact st.res (i := 2) rfl⟩)
  | (rw [if_neg (by rw [hc64]; simp), if_pos (by omega)]; exact ⟨rfl, _, st.res (i := 2) rfl⟩)
  | (rw [if_neg (by rw [hc64]; simp), if_neg (by omega)]; exact ⟨rfl, by dsimp only; rw [hlen, show i + (j - i) = j from by omega]; exact st.res (i := 2) rfl⟩)
end Go.Proofs.YtggnfanphcaamaaGreatDoor


namespace Go.Proofs.YtggnfanphcaamaaGreatDoor
open Go.RowKit Sx LexS _root_.Go.Proofs.Tryz
theorem contains1_any (c : UInt8) (w : World) : Ret Tryz.prog 86 [str signs1, str [c]] w fun v w' => v = .bool (signs1.contains c) ∧ w' = w :=
 (Tryz.strings_Contains_one ⟨signs1.toArray⟩ c w).mono fun e w' ⟨he, hw⟩ => ⟨_, he, by rw [contains_ib], hw⟩
theorem tokAt_sign {s : List UInt8} {i : Nat} (h : i < s.length) (hc : isLetter (s.getD i 0) = false) (hd : isDigit (s.getD i 0) = false) : tokAt (s.drop i) i =
    if isSign2 ((s.drop i).take 2) then .tok ⟨4, (s.drop i).take 2, 0, i⟩ else if isSign1 ((s.drop i).take 1) then .tok ⟨4, (s.drop i).take 1, 0, i⟩ else .bad 1 i := by
 rw [drop_cons h]; simp only [tokAt, hc, hd, Bool.false_eq_true, if_false, List.take_succ_cons, List.take_zero]; rfl
theorem isSign2_len {l : List UInt8} (h : isSign2 l = true) : l.length = 2 := by
 simp only [isSign2, decide_eq_true_eq] at h
 rcases h with h | h | h | h | h | h <;> simp [h]
theorem isSign1_len {l : List UInt8} (h : isSign1 l = true) : l.length = 1 := by
 match l, h with
 | [], h => simp [isSign1] at h
 | [_], _ => rfl
 | _ :: _ :: _, h => simp [isSign1] at h
set_option maxHeartbeats 1000000 in
theorem sign_any (l : List UInt8) (w : World) : Ret Tryz.prog 69 [str l] w fun v w' => v = .bool (isSign l) ∧ w' = w := by
 refine ret_of [_] func69 rfl ntmps69 rfl ?_
 have st := St.init w []
 refine sr ?_
 refine ya ?_
 refine et (vk1 0 (vc_seq (sr ?_)))
 refine ym ?_
 refine et (vk2 0 3 (vc_block (vc_seq (sr ?_))))
 refine vy (y_eqs rfl rfl) ?_
 refine ya ?_
 refine et (vk3 0 3 4 ?_)
 refine vif ?_ ?_
 intro hc4
 try simp only [dn] at hc4
 refine kt (vk2 0 4 ?_)
 refine vc_ift rfl ?_
 refine sr ?_
 refine ya ?_
 refine et (vk1 2 (vc_ret (vq_block_ret (vq_then_ret ?_))))
 rotate_left
 focus
  intro hc4
  try simp only [dn] at hc4
  refine sr ?_
  refine vy (y_eqs rfl rfl) ?_
  refine ya ?_
  refine et (vk3 0 3 4 ?_)
  refine vif ?_ ?_
  intro hc4
  try simp only [dn] at hc4
  refine kt (vk2 0 4 ?_)
  refine vc_ift rfl ?_
  refine sr ?_
  refine ya ?_
  refine et (vk1 2 (vc_ret (vq_block_ret (vq_then_ret ?_))))
  rotate_left
  focus
   intro hc4
   try simp only [dn] at hc4
   refine sr ?_
   refine vy (y_eqs rfl rfl) ?_
   refine ya ?_
   refine et (vk3 0 3 4 ?_)
   refine vif ?_ ?_
   intro hc4
   try simp only [dn] at hc4
   refine kt (vk2 0 4 ?_)
   refine vc_ift rfl ?_
   refine sr ?_
   refine ya ?_
   refine et (vk1 2 (vc_ret (vq_block_ret (vq_then_ret ?_))))
   rotate_left
   focus
    intro hc4
    try simp only [dn] at hc4
    refine sr ?_
    refine vy (y_eqs rfl rfl) ?_
    refine ya ?_
    refine et (vk3 0 3 4 ?_)
    refine vif ?_ ?_
    intro hc4
    try simp only [dn] at hc4
    refine kt (vk2 0 4 ?_)
    refine vc_ift rfl ?_
    refine sr ?_
    refine ya ?_
    refine et (vk1 2 (vc_ret (vq_block_ret (vq_then_ret ?_))))
    rotate_left
    focus
     intro hc4
     try simp only [dn] at hc4
     refine sr ?_
     refine vy (y_eqs rfl rfl) ?_
     refine ya ?_
     refine et (vk3 0 3 4 ?_)
     refine vif ?_ ?_
     intro hc4
     try simp only [dn] at hc4
     refine kt (vk2 0 4 ?_)
     refine vc_ift rfl ?_
     refine sr ?_
     refine ya ?_
     refine et (vk1 2 (vc_ret (vq_block_ret (vq_then_ret ?_))))
     rotate_left
     focus
      intro hc4
      try simp only [dn] at hc4
      refine vc_region ?_
      refine vy (y_eqs rfl rfl) ?_
      refine ya ?_
      refine et (vk2 0 4 ?_)
      refine vif ?_ ?_
      intro hc4
      try simp only [dn] at hc4
      refine sr ?_
      refine ya ?_
      refine et (vk1 2 (vc_ret (vq_block_ret (vq_then_ret ?_))))
      rotate_left
      focus
       intro hc4
       try simp only [dn] at hc4
       refine vc_code_skip (vq_block (vq_then (vk1 0 (sr ?_))))
       refine ym ?_
       refine vy (y_lens rfl underlying9) ?_
       refine vy (y_eqi rfl rfl) ?_
       refine vmb ?_ ?_
       intro hg14
       try simp only [dn] at hg14
       obtain ⟨c, rfl⟩ : ∃ c, l = [c] := by
        match l, hg14 with
        | [c], _ => exact ⟨c, rfl⟩
        | [], h => simp at h
        | _ :: _ :: _, h => simp at h; omega
       refine ym ?_
       refine vc_e (e_call [_, _] rfl rfl call86 rfl (contains1_any _ _) ?_)
       rintro _ _ ⟨rfl, rfl⟩
       refine ypt ?_
       rotate_left
       intro hg14
       try simp only [dn] at hg14
       iterate 2 refine vsk ?_
       refine ypf ?_
       all_goals
        refine ya ?_
        refine et (vk1 2 (vc_ret ?_))
 all_goals
  refine vq_ret1 st (.inl rfl) results69 (.tmp rfl) ?_
  refine ⟨_, rfl, ?_⟩
  refine ⟨?_, rfl⟩
  rw [Value.bool.injEq]
  first
  | (symm; simp only [isSign, isSign2, Bool.or_eq_true, decide_eq_true_eq]; simp only [*, true_or, or_true]; done)
  | (have h2 : isSign2 [c] = false := by simp [isSign2]
     simp [isSign, h2, isSign1]; done)
  | (have h2 : isSign2 l = false := by simp only [isSign2, decide_eq_false_iff_not]; simp only [*, or_self, not_false_eq_true]
     have h1 : isSign1 l = false := by
       cases h : isSign1 l
       · rfl
       · have := isSign1_len h; omega
     simp [isSign, h1, h2])
theorem sign_rd (b : Nat) (s : List UInt8) (i : Nat) (fa fr : Int) (w : World) (hb : w.heap[b]? = some (scn s i fa fr)) (hi : i < s.length) (hs : s.length ≤ 3000000) (hc : isLetter (s.getD i 0) = false) (hd : isDigit (s.getD i 0) = false) :
    Ret Tryz.prog 56 [.pointer (some ⟨b, 0, none⟩)] w fun v w' => Chg [b] w w' ∧ RdPost b s i fa fr (tokAt (s.drop i) i) v w' := by
 refine ret_of [_] func56 rfl ntmps56 rfl ?_
 have st := St.init w [b]
 replace st := St.of1 [b] hb
 refine sr ?_
 refine vc_e (e_al (l := [_, _, _, _]) st rfl rfl zeroValue82 rfl ?_)
 intro b2 w hb2 st
 refine et (vk2 0 2 (vc_seq (sr ?_)))
 refine ya ?_
 refine et (vk3 0 2 3 (vc_block ?_))
 refine vc_loop (w0 := _) (M := _) (fun (m : Nat) => [(0, .pointer (some ⟨b, 0, none⟩)), (2, .pointer (some ⟨b2, 0, none⟩)), (3, .int .i64 (m : Int))]) (fun (_ : Nat) => [.blk b2 (.cells zeroL.toArray 82 (0, 0)), .blk b (scn s i fa fr)]) (fun m _ => m ≤ 2 ∧ (m < 2 → isSign2 ((s.drop i).take 2) = false) ∧ (m < 1 → isSign1 ((s.drop i).take 1) = false)) (fun m => m) 2 ⟨rfl, rfl, rfl, trivial⟩ st ⟨by omega, by omega, by omega⟩ ?_
 rintro m w ⟨hm, h2, h1⟩ st
 refine vc_seq (sr ?_)
 refine ym ?_
 refine vy (y_gtr rfl rfl) ?_
 refine et (vk4 0 2 3 5 ?_)
 refine vif ?_ ?_
 ·intro hc5
  try simp only [dn] at hc5
  refine kt (vk3 0 2 3 (vc_seq (vc_block (vc_seq ?_))))
  refine vc_draw Tryz.mixed [(0, true), (1, true), (2, true), (3, true), (4, true), (5, true), (6, true), (7, true), (8, true), (9, true), (10, true), (11, true), (12, true), (13, true), (14, true), (15, true), (16, true), (17, true), (18, true), (19, true), (20, true), (21, true), (22, true), (23, true), (24, true), (25, true), (26, true), (27, true), (28, false), (29, true)] (fun w => St _ _ _ w) st (by kernel_rfl) (by repeat (first | exact okQ_body | refine okQ_then ?_ | refine okQ_block ?_)) rfl (by kernel_rfl) ?_
  intro w cd; replace st := st.call0 cd; clear cd
  have hS := st
  refine pm hS ?_
  refine pnk hS ?_
  refine pfz hS 1 underlying79 sizeOf3 ?_
  refine pld hS 1 isAgg3 ?_
  refine pm hS ?_
  refine vp_take rfl rfl rfl hS (fun w st => y_add rfl rfl rfl (by omega) (by omega)) ?_
  refine pm hS ?_
  refine pnk hS ?_
  refine pf0 hS underlying79 sizeOf9 ?_
  refine pld hS 1 isAgg9 ?_
  refine vp_take rfl rfl rfl hS (fun w st => y_lens rfl underlying9) ?_
  refine vp_take rfl rfl rfl hS (fun w st => y_leq rfl rfl) ?_
  refine vp_part rfl rfl rfl hS rfl ?_ ?_
  ·intro hg20
   try simp only [dn] at hg20
   refine pm hS ?_
   refine pnk hS ?_
   refine pf0 hS underlying79 sizeOf9 ?_
   refine pld hS 1 isAgg9 ?_
   refine pm hS ?_
   refine pnk hS ?_
   refine pfz hS 1 underlying79 sizeOf3 ?_
   refine pld hS 1 isAgg3 ?_
   refine pm hS ?_
   refine pnk hS ?_
   refine pfz hS 1 underlying79 sizeOf3 ?_
   refine pld hS 1 isAgg3 ?_
   refine pm hS ?_
   refine vp_take rfl rfl rfl hS (fun w st => y_add rfl rfl rfl (by omega) (by omega)) ?_
   refine vp_take rfl rfl rfl hS (fun w st => y_sls (i := _) (j := (i + m)) rfl rfl rfl underlying9 rfl rfl (by omega) (by omega)) ?_
   refine vp_do rfl (e_call [_] rfl rfl call69 rfl (sign_any _ _) ?_)
   rintro _ _ ⟨rfl, rfl⟩
   refine vp_next (by exact st) ?_; intro hS
   refine vp_take rfl rfl rfl hS (fun w st => y_pickt rfl rfl) ?_
   refine vp_end (vq_then (vk4 0 2 3 37 ?_))
   refine vif ?_ ?_
   ·intro hc37
    try simp only [dn] at hc37
    refine sr ?_
    refine ym ?_
    refine ynk ?_
    refine yfz 1 underlying79 sizeOf3 ?_
    refine yl st 1 isAgg3 ?_
    refine ym ?_
    refine vy (y_add rfl rfl rfl (by omega) (by omega)) ?_
    refine ynk ?_
    refine yfz 1 underlying79 sizeOf3 ?_
    refine vc_e (e_st st 1 rfl rfl rfl rfl sizeOf3 rfl rfl (by (left; simp)) ?_)
    intro w st; dsimp only [setNth, wr] at st
    refine et (vk3 0 2 3 (vc_seq ?_))
    refine vc_draw Tryz.mixed [(0, true), (1, true), (2, true), (3, true), (4, true), (5, true), (6, true), (7, true), (8, true), (9, true), (10, true), (11, true), (12, true), (13, true), (14, true), (15, true), (16, true), (17, true), (18, true), (19, true), (20, true), (21, true), (22, false)] (fun w => St _ _ [.blk b (scn s ((i : Int) + m) fa fr)] w) st.dr (by kernel_rfl) (by repeat (first | exact okQ_body | refine okQ_then ?_ | refine okQ_block ?_)) rfl (by kernel_rfl) ?_
    intro w cd; replace st := st.call0 cd; clear cd
    have hS : St _ _ [.blk b (scn s ((i : Int) + m) fa fr)] w := st.dr
    refine pm hS ?_
    refine pnk hS ?_
    refine pf0 hS underlying79 sizeOf9 ?_
    refine pld hS 0 isAgg9 ?_
    refine pm hS ?_
    refine pnk hS ?_
    refine pfz hS 1 underlying79 sizeOf3 ?_
    refine pld hS 0 isAgg3 ?_
    refine pm hS ?_
    refine vp_take rfl rfl rfl hS (fun w st => y_sub rfl rfl (by omega : _ = (i : Int)) (by omega) (by omega)) ?_
    refine pm hS ?_
    refine pnk hS ?_
    refine pfz hS 1 underlying79 sizeOf3 ?_
    refine pld hS 0 isAgg3 ?_
    refine vp_take rfl rfl rfl hS (fun w st => y_sls (i := i) (j := (i + m)) rfl rfl rfl underlying9 rfl rfl (by omega) (by omega)) ?_
    refine pm hS ?_
    refine pnk hS ?_
    refine pfz hS 1 underlying79 sizeOf3 ?_
    refine pld hS 0 isAgg3 ?_
    refine pm hS ?_
    refine vp_take rfl rfl rfl hS (fun w st => y_sub rfl rfl (by omega : _ = (i : Int)) (by omega) (by omega)) ?_
    refine vp_take rfl rfl rfl hS (fun w st => y_bld (.agg #[_, _, _, _]) [(0, _), (1, _), (3, _)] rfl (fun w => by simp [Instr.build, go_sem] <;> repeat' constructor)) ?_
    refine vp_do rfl (e_sts (vs := [_, _, _, _]) st 0 rfl rfl rfl rfl rfl sizeOf82 rfl rfl (by (right; assumption)) ?_)
    intro w st; dsimp only [setNth, wr] at st
    refine vp_next st.dr ?_; intro hS
    refine vp_end (vq_then (vk1 2 (vc_ret (vq_block_ret (vq_then_ret (vq_then_ret (vq_block_ret (vq_then_ret ?_))))))))
    refine vq_ret1 st (.inl rfl) results56 (by exact .cell 0 rfl rfl isAgg82 sizeOf82) ?_
    refine ⟨_, rfl, ?_⟩
    refine ⟨st.chg, ?_⟩
    rw [tokAt_sign hi hc hd]
    rw [show i + m - i = m by omega] at hc37
    have hr := st.res (i := 1) rfl
    rcases (show m = 2 ∨ m = 1 by omega) with rfl | rfl
    ·have h2' : isSign2 ((s.drop i).take 2) = true := by
      simp only [isSign, Bool.or_eq_true] at hc37
      rcases hc37 with h | h
      ·exact h
      ·have := isSign1_len h; simp at this; omega
     rw [if_pos h2']
     exact ⟨by rfl, by dsimp only; rw [isSign2_len h2']; exact hr⟩
    ·have h1' : isSign1 ((s.drop i).take 1) = true := by
      simp only [isSign, Bool.or_eq_true] at hc37
      rcases hc37 with h | h
      ·have := isSign2_len h; simp at this; omega
      ·exact h
     rw [if_neg (by rw [h2 (by omega)]; simp), if_pos h1']
     exact ⟨by rfl, by dsimp only; rw [isSign1_len h1']; exact hr⟩
   intro hc37
   try simp only [dn] at hc37
   refine vc_code_skip (vq_block (vq_then (vk3 0 2 3 (vc_region ?_))))
   refine ym ?_
   refine vy (y_sub rfl rfl (by omega : _ = ((m - 1 : Nat) : Int)) (by omega) (by omega)) ?_
   refine ya ?_
   refine vc_end ?_
   refine vq_again (m - 1)  ⟨rfl, rfl, rfl, trivial⟩ st ?_ ?_
   ·first
    | (exact ⟨by omega, fun _ => by
        rcases (show m = 2 ∨ m = 1 by omega) with rfl | rfl
        · simp only [isSign, Bool.or_eq_false_iff, show i + 2 - i = 2 by omega] at hc37; exact hc37.1
        · exact h2 (by omega), fun hlt => by
        obtain rfl : m = 1 := by omega
        simp only [isSign, Bool.or_eq_false_iff, show i + 1 - i = 1 by omega] at hc37; exact hc37.2⟩)
   omega
  intro hg20
  try simp only [dn] at hg20
  iterate 15 refine vp_skip rfl rfl rfl hS ?_
  refine vp_do rfl (e_skip rfl rfl (vp_next hS (fun hS => ?_)))
  refine vp_take rfl rfl rfl hS (fun w st => y_pickf rfl rfl) ?_
  refine vp_end (vq_then (vk4 0 2 3 37 ?_))
  refine vc_iff rfl ?_
  refine vc_code_skip (vq_block (vq_then (vk3 0 2 3 (vc_region ?_))))
  refine ym ?_
  refine vy (y_sub rfl rfl (by omega : _ = ((m - 1 : Nat) : Int)) (by omega) (by omega)) ?_
  refine ya ?_
  refine vc_end ?_
  refine vq_again (m - 1)  ⟨rfl, rfl, rfl, trivial⟩ st ?_ ?_
  ·first
   | (exact ⟨by omega, fun _ => by
       rcases (show m = 2 ∨ m = 1 by omega) with rfl | rfl
       · cases h : isSign2 ((s.drop i).take 2)
         · rfl
         · have hl := isSign2_len h; simp at hl; omega
       · exact h2 (by omega), fun hlt => by
       obtain rfl : m = 1 := by omega
       omega⟩)
  omega
 intro hc5
 try simp only [dn] at hc5
 refine vc_exit (vq_then_exit (vq_then_exit (vq_block_exit (vq_then (vk2 0 2 (sr ?_))))))
 iterate 2 refine ym ?_
 refine ynk ?_
 refine yfz 1 underlying79 sizeOf3 ?_
 refine yl st 1 isAgg3 ?_
 refine vc_e (e_call [_, _, _] rfl rfl call70 rfl (wrong_any b s _ _ _ _ _ _ (st.res (i := 1) rfl)) ?_)
 rintro _ w ⟨rfl, cw, hw⟩
 replace st := st.turn (i := 1) (r' := .blk b _) rfl rfl rfl cw (.inl (by simp)) hw
 dsimp only [setNth] at st
 refine vc_e (e_sts (vs := [_, _, _, _]) st 0 rfl rfl rfl rfl rfl sizeOf82 rfl rfl (by (right; assumption)) ?_)
 intro w st; dsimp only [setNth, wr] at st
 refine et (vk1 2 (vc_ret ?_))
 refine vq_ret1 st (.inl rfl) results56 (by exact .cell 0 rfl rfl isAgg82 sizeOf82) ?_
 refine ⟨_, rfl, ?_⟩
 refine ⟨st.chg, ?_⟩
 rw [tokAt_sign hi hc hd, if_neg (by rw [h2 (by omega)]; simp), if_neg (by rw [h1 (by omega)]; simp)]
 exact ⟨rfl, _, st.res (i := 1) rfl⟩
end Go.Proofs.YtggnfanphcaamaaGreatDoor


namespace Go.Proofs.YtggnfanphcaamaaGreatDoor
open Go.RowKit Sx LexS _root_.Go.Proofs.Tryz
theorem digit_iff {c : UInt8} (h : isDigit c = true) : 48 ≤ c.toNat ∧ c.toNat ≤ 57 := by simpa [isDigit] using h
theorem tokAt_num {s : List UInt8} {i : Nat} (h : i < s.length) (hc : isLetter (s.getD i 0) = false) (hd : isDigit (s.getD i 0) = true) : tokAt (s.drop i) i =
    if (1 < ((s.drop i).takeWhile isDigit).length ∧ s.getD i 0 = 48) ∨ 9223372036854775807 < numVal ((s.drop i).takeWhile isDigit) then .bad 3 i
  else if i + ((s.drop i).takeWhile isDigit).length < s.length ∧ isLetter (s.getD (i + ((s.drop i).takeWhile isDigit).length) 0) = true then .bad 4 (i + ((s.drop i).takeWhile isDigit).length)
  else .tok ⟨3, (s.drop i).takeWhile isDigit, numVal ((s.drop i).takeWhile isDigit), i⟩ := by
 have e : tokAt (s.drop i) i = if (1 < ((s.drop i).takeWhile isDigit).length ∧ s.getD i 0 = 48) ∨ 9223372036854775807 < numVal ((s.drop i).takeWhile isDigit) then .bad 3 i
     else match (s.drop i).drop ((s.drop i).takeWhile isDigit).length with
    | d :: _ => if isLetter d then .bad 4 (i + ((s.drop i).takeWhile isDigit).length) else .tok ⟨3, (s.drop i).takeWhile isDigit, numVal ((s.drop i).takeWhile isDigit), i⟩
    | [] => .tok ⟨3, (s.drop i).takeWhile isDigit, numVal ((s.drop i).takeWhile isDigit), i⟩ := by
  rw [drop_cons h]; simp only [tokAt, hc, hd, Bool.false_eq_true, if_false, if_true]; rfl
 rw [e]
 generalize (s.drop i).takeWhile isDigit = T
 split
 ·rfl
 ·rw [List.drop_drop]
  by_cases hl : i + T.length < s.length
  ·rw [drop_cons hl]; simp only [hl, true_and]
  ·rw [List.drop_eq_nil_of_le (by omega), if_neg (by omega)]
theorem u8_eq48 {c : UInt8} (h : (c.toNat : Int) = 48) : c = 48 := by
 apply UInt8.toNat_inj.1; simp; omega
theorem num_step {s : List UInt8} {i j : Nat} (hij : i ≤ j) (hj : j < s.length) : numVal ((s.drop i).take (j + 1 - i)) = 10 * numVal ((s.drop i).take (j - i)) + ((s.getD j 0).toNat - 48) := by
 rw [← numVal_snoc, show j + 1 - i = (j - i) + 1 from by omega, List.take_succ_eq_append_getElem (by simp; omega)]
 simp [List.getD, hj, show i + (j - i) = j from by omega]
set_option maxHeartbeats 1000000 in
theorem number_rd (b : Nat) (s : List UInt8) (i : Nat) (fa fr : Int) (w : World) (hb : w.heap[b]? = some (scn s i fa fr)) (hi : i < s.length) (hs : s.length ≤ 3000000) (hc : isLetter (s.getD i 0) = false) (hd : isDigit (s.getD i 0) = true) :
    Ret Tryz.prog 58 [.pointer (some ⟨b, 0, none⟩)] w fun v w' => Chg [b] w w' ∧ RdPost b s i fa fr (tokAt (s.drop i) i) v w' := by
 refine ret_of [_] func58 rfl ntmps58 rfl ?_
 have st := St.init w [b]
 replace st := St.of1 [b] hb
 refine sr ?_
 refine vc_e (e_al (l := [_, _, _, _]) st rfl rfl zeroValue82 rfl ?_)
 intro b2 w hb2 st
 refine et (vk2 0 2 (sr ?_))
 refine ym ?_
 refine ynk ?_
 refine yfz 1 underlying79 sizeOf3 ?_
 refine yl st 1 isAgg3 ?_
 refine ya ?_
 refine et (vk3 0 2 3 (sr ?_))
 refine ya ?_
 refine et (vk4 0 2 3 4 (sr ?_))
 refine ya ?_
 refine et (vk5 0 2 3 4 5 (vc_seq (vc_block ?_)))
 refine vc_loop (w0 := _) (M := _) (fun (x : Nat × Nat × Bool) => [(0, .pointer (some ⟨b, 0, none⟩)), (2, .pointer (some ⟨b2, 0, none⟩)), (3, .int .i64 (i : Int)), (4, .int .u64 (x.2.1 : Int)), (5, .bool x.2.2)]) (fun x => [.blk b2 (.cells zeroL.toArray 82 (0, 0)), .blk b (scn s x.1 fa fr)]) (fun x _ => i ≤ x.1 ∧ x.1 ≤ s.length ∧ (s.drop i).takeWhile isDigit = (s.drop i).take (x.1 - i) ++ (s.drop x.1).takeWhile isDigit ∧ x.2.1 < 18446744073709551616 ∧ x.2.2 = decide (9223372036854775807 < numVal ((s.drop i).take (x.1 - i))) ∧ (x.2.2 = false → x.2.1 = numVal ((s.drop i).take (x.1 - i)))) (fun x => s.length - x.1) (i, 0, false) ⟨rfl, rfl, rfl, rfl, rfl, trivial⟩ st ⟨by simp, by simp; omega, by simp, by simp, by simp [numVal], by simp [numVal]⟩ ?_
 rintro ⟨j, n, gr⟩ w ⟨hij, hj, he, hn64, hgr, hn⟩ st
 dsimp only at *
 refine vc_seq (vc_seq ?_)
 refine vc_draw Tryz.mixed [(0, true), (1, true), (2, true), (3, true), (4, true), (5, true), (6, true), (7, true), (8, true), (9, true), (10, true), (11, true), (12, true), (13, true), (14, true), (15, true), (16, true), (17, true), (18, true), (19, true), (20, false), (21, true)] (fun w => St _ _ _ w) st (by kernel_rfl) (by repeat (first | exact okQ_body | refine okQ_then ?_ | refine okQ_block ?_)) rfl (by kernel_rfl) ?_
 intro w cd; replace st := st.call0 cd; clear cd
 have hS := st
 refine pm hS ?_
 refine pnk hS ?_
 refine pfz hS 1 underlying79 sizeOf3 ?_
 refine pld hS 1 isAgg3 ?_
 refine pm hS ?_
 refine pnk hS ?_
 refine pf0 hS underlying79 sizeOf9 ?_
 refine pld hS 1 isAgg9 ?_
 refine vp_take rfl rfl rfl hS (fun w st => y_lens rfl underlying9) ?_
 refine vp_take rfl rfl rfl hS (fun w st => y_lss rfl rfl) ?_
 refine vp_part rfl rfl rfl hS rfl ?_ ?_
 ·intro hg21
  try simp only [dn] at hg21
  refine pm hS ?_
  refine pnk hS ?_
  refine pf0 hS underlying79 sizeOf9 ?_
  refine pld hS 1 isAgg9 ?_
  refine pm hS ?_
  refine pnk hS ?_
  refine pfz hS 1 underlying79 sizeOf3 ?_
  refine pld hS 1 isAgg3 ?_
  refine vp_take rfl rfl rfl hS (fun w st => y_ixs (k := _) rfl rfl underlying9 rfl (by omega)) ?_
  refine vp_do rfl (e_call [_] rfl rfl call60 rfl (digit_any _ _) ?_)
  rintro _ _ ⟨rfl, rfl⟩
  refine vp_next (by exact st) ?_; intro hS
  refine vp_take rfl rfl rfl hS (fun w st => y_pickt rfl rfl) ?_
  refine vp_end (vq_then (vk6 0 2 3 4 5 32 ?_))
  refine vif ?_ ?_
  ·intro hc32
   try simp only [dn] at hc32
   have hdg := digit_iff hc32
   refine kt (vk5 0 2 3 4 5 (vc_block (vc_seq ?_)))
   refine vc_draw Tryz.mixed [(0, true), (1, true), (2, true), (3, true), (4, true), (5, true), (6, true), (7, true), (8, true), (9, true), (10, true), (11, true)] (fun w => St _ _ _ w) st (by kernel_rfl) (by repeat (first | exact okQ_body | refine okQ_then ?_ | refine okQ_block ?_)) rfl (by kernel_rfl) ?_
   intro w cd; replace st := st.call0 cd; clear cd
   have hS := st
   refine pm hS ?_
   refine pnk hS ?_
   refine pf0 hS underlying79 sizeOf9 ?_
   refine pld hS 1 isAgg9 ?_
   refine pm hS ?_
   refine pnk hS ?_
   refine pfz hS 1 underlying79 sizeOf3 ?_
   refine pld hS 1 isAgg3 ?_
   refine vp_take rfl rfl rfl hS (fun w st => y_ixs (k := _) rfl rfl underlying9 rfl (by omega)) ?_
   refine vp_take rfl rfl rfl hS (fun w st => y_subk rfl rfl (by rw [wrap_u8]; omega : _ = (((s.getD j 0).toNat - 48 : Nat) : Int))) ?_
   refine vp_take rfl rfl rfl hS (fun w st => y_cvi rfl underlying105 underlying5 (by rw [wrap_u64]; omega : _ = (((s.getD j 0).toNat - 48 : Nat) : Int))) ?_
   refine vp_take rfl rfl rfl hS (fun w st => y_as rfl) ?_
   refine vp_end (vq_then (vk6 0 2 3 4 5 6 (sr ?_)))
   refine ym ?_
   refine vmb ?_ ?_
   ·intro hg45
    try simp only [dn] at hg45
    iterate 5 refine vsk ?_
    refine ypt ?_
    refine ya ?_
    refine et (vk6 0 2 3 4 5 6 (sr ?_))
    refine ym ?_
    refine vy (y_mulk rfl rfl (by rw [wrap_u64]; omega : _ = ((n * 10 % 18446744073709551616 : Nat) : Int))) ?_
    refine ym ?_
    refine vy (y_addk rfl rfl (by rw [wrap_u64]; omega : _ = (((n * 10 % 18446744073709551616 + ((s.getD j 0).toNat - 48)) % 18446744073709551616 : Nat) : Int))) ?_
    refine ya ?_
    refine et (vk5 0 2 3 4 5 (vc_region ?_))
    refine ym ?_
    refine ynk ?_
    refine yfz 1 underlying79 sizeOf3 ?_
    refine yl st 1 isAgg3 ?_
    refine vy (y_add rfl rfl rfl (by omega) (by omega)) ?_
    refine ynk ?_
    refine yfz 1 underlying79 sizeOf3 ?_
    refine vc_e (e_st st 1 rfl rfl rfl rfl sizeOf3 rfl rfl (by (left; simp)) ?_)
    intro w st; dsimp only [setNth, wr] at st
    refine vc_end (vq_block ?_)
    refine vq_again (j + 1, (n * 10 % 18446744073709551616 + ((s.getD j 0).toNat - 48)) % 18446744073709551616, true)  ⟨rfl, rfl, rfl, rfl, rfl, trivial⟩ st ?_ ?_
    ·refine ⟨by omega, by omega, tw_step hij (by omega) (by assumption) he, Nat.mod_lt _ (by decide), ?_, ?_⟩
     all_goals (dsimp only; have hns := num_step hij (show j < s.length by omega))
     ·rw [hns]
      (symm; rw [decide_eq_true_eq]; subst hg45; have hh := hgr.symm; rw [decide_eq_true_eq] at hh; omega)
     ·intro hf
      (cases hf; done)
    dsimp only; omega
   intro hg45
   try simp only [dn] at hg45
   iterate 2 refine ym ?_
   refine vy (y_subk rfl rfl (by rw [wrap_u64]; omega : _ = ((9223372036854775807 - ((s.getD j 0).toNat - 48) : Nat) : Int))) ?_
   refine vy (y_quok rfl rfl (by omega) (by omega) (by rw [wrap_u64]; omega : _ = (((9223372036854775807 - ((s.getD j 0).toNat - 48)) / 10 : Nat) : Int))) ?_
   refine vy (y_gtr rfl rfl) ?_
   refine ypf ?_
   refine ya ?_
   refine et (vk6 0 2 3 4 5 6 (sr ?_))
   refine ym ?_
   refine vy (y_mulk rfl rfl (by rw [wrap_u64]; omega : _ = ((n * 10 % 18446744073709551616 : Nat) : Int))) ?_
   refine ym ?_
   refine vy (y_addk rfl rfl (by rw [wrap_u64]; omega : _ = (((n * 10 % 18446744073709551616 + ((s.getD j 0).toNat - 48)) % 18446744073709551616 : Nat) : Int))) ?_
   refine ya ?_
   refine et (vk5 0 2 3 4 5 (vc_region ?_))
   refine ym ?_
   refine ynk ?_
   refine yfz 1 underlying79 sizeOf3 ?_
   refine yl st 1 isAgg3 ?_
   refine vy (y_add rfl rfl rfl (by omega) (by omega)) ?_
   refine ynk ?_
   refine yfz 1 underlying79 sizeOf3 ?_
   refine vc_e (e_st st 1 rfl rfl rfl rfl sizeOf3 rfl rfl (by (left; simp)) ?_)
   intro w st; dsimp only [setNth, wr] at st
   refine vc_end (vq_block ?_)
   refine vq_again (j + 1, (n * 10 % 18446744073709551616 + ((s.getD j 0).toNat - 48)) % 18446744073709551616, decide ((((9223372036854775807 - ((s.getD j 0).toNat - 48)) / 10 : Nat) : Int) < (n : Int)))  ⟨rfl, rfl, rfl, rfl, rfl, trivial⟩ st ?_ ?_
   ·refine ⟨by omega, by omega, tw_step hij (by omega) (by assumption) he, Nat.mod_lt _ (by decide), ?_, ?_⟩
    all_goals (dsimp only; have hns := num_step hij (show j < s.length by omega))
    ·rw [hns]
     first
     | (have hz : n = numVal ((s.drop i).take (j - i)) := hn hg45
        rw [Bool.eq_iff_iff, decide_eq_true_eq, decide_eq_true_eq, ← hz]; omega)
    ·intro hf
     first
     | (have hz : n = numVal ((s.drop i).take (j - i)) := hn hg45
        rw [decide_eq_false_iff_not] at hf
        rw [hns, ← hz]; omega)
   dsimp only; omega
  intro hc32
  try simp only [dn] at hc32
  have hT := tw_end (fun _ => by assumption) he
  refine vc_exit (vq_then_exit (vq_then_exit (vq_block_exit (vq_then (vk5 0 2 3 4 5 (vc_seq (vc_block (sr ?_))))))))
  refine ym ?_
  refine ynk ?_
  refine yfz 1 underlying79 sizeOf3 ?_
  refine yl st 1 isAgg3 ?_
  refine ym ?_
  refine vy (y_add rfl rfl rfl (by omega) (by omega)) ?_
  refine vy (y_gtr rfl rfl) ?_
  refine vmb ?_ ?_
  focus
   intro hg71
   try simp only [dn] at hg71
   refine ym ?_
   refine ynk ?_
   refine vy (y_fa0 rfl underlying79 rfl rfl sizeOf9 rfl) ?_
   refine yl st 1 isAgg9 ?_
   refine ym ?_
   refine vy (y_ixs (k := _) rfl rfl underlying9 rfl (by omega)) ?_
   refine vy (y_eqi rfl rfl) ?_
   refine ypt ?_
   refine vmb ?_ ?_
   intro hg80
   try simp only [dn] at hg80
   refine vsk ?_
   refine ypt ?_
   refine ya ?_
   refine et (vk5 0 2 3 4 63 ?_)
   refine vc_ift rfl ?_
   refine sr ?_
   iterate 2 refine ym ?_
   refine vc_e (e_call [_, _, _] rfl rfl call70 rfl (wrong_any b s _ _ _ _ _ _ (st.res (i := 1) rfl)) ?_)
   rintro _ w ⟨rfl, cw, hw⟩
   replace st := st.turn (i := 1) (r' := .blk b _) rfl rfl rfl cw (.inl (by simp)) hw
   dsimp only [setNth] at st
   refine vc_e (e_sts (vs := [_, _, _, _]) st 0 rfl rfl rfl rfl rfl sizeOf82 rfl rfl (by (right; assumption)) ?_)
   intro w st; dsimp only [setNth, wr] at st
   refine et (vk1 2 (vc_ret (vq_block_ret (vq_then_ret ?_))))
   rotate_left
   focus
    intro hg80
    try simp only [dn] at hg80
    refine ym ?_
    refine ypf ?_
    refine ya ?_
    refine et (vk5 0 2 3 4 63 ?_)
    refine vif ?_ ?_
    intro hc63
    try simp only [dn] at hc63
    refine sr ?_
    iterate 2 refine ym ?_
    refine vc_e (e_call [_, _, _] rfl rfl call70 rfl (wrong_any b s _ _ _ _ _ _ (st.res (i := 1) rfl)) ?_)
    rintro _ w ⟨rfl, cw, hw⟩
    replace st := st.turn (i := 1) (r' := .blk b _) rfl rfl rfl cw (.inl (by simp)) hw
    dsimp only [setNth] at st
    refine vc_e (e_sts (vs := [_, _, _, _]) st 0 rfl rfl rfl rfl rfl sizeOf82 rfl rfl (by (right; assumption)) ?_)
    intro w st; dsimp only [setNth, wr] at st
    refine et (vk1 2 (vc_ret (vq_block_ret (vq_then_ret ?_))))
    rotate_left
    focus
     intro hc63
     try simp only [dn] at hc63
     have hnn := hn hc63
     have hM : n ≤ 9223372036854775807 := by rw [hc63] at hgr; have := of_decide_eq_false hgr.symm; omega
     refine vc_seq ?_
     refine vc_draw Tryz.mixed [(0, true), (1, true), (2, true), (3, true), (4, true), (5, true), (6, true), (7, true), (8, true), (9, true), (10, true), (11, true), (12, true), (13, true), (14, true), (15, true), (16, true), (17, true), (18, true), (19, true), (20, false), (21, true), (22, true)] (fun w => St _ _ _ w) st (by kernel_rfl) (by repeat (first | exact okQ_body | refine okQ_then ?_ | refine okQ_block ?_)) rfl (by kernel_rfl) ?_
     intro w cd; replace st := st.call0 cd; clear cd
     have hS := st
     refine pm hS ?_
     refine pnk hS ?_
     refine pfz hS 1 underlying79 sizeOf3 ?_
     refine pld hS 1 isAgg3 ?_
     refine pm hS ?_
     refine pnk hS ?_
     refine pf0 hS underlying79 sizeOf9 ?_
     refine pld hS 1 isAgg9 ?_
     refine vp_take rfl rfl rfl hS (fun w st => y_lens rfl underlying9) ?_
     refine vp_take rfl rfl rfl hS (fun w st => y_lss rfl rfl) ?_
     refine vp_part rfl rfl rfl hS rfl ?_ ?_
     focus
      intro hg97
      try simp only [dn] at hg97
      refine pm hS ?_
      refine pnk hS ?_
      refine pf0 hS underlying79 sizeOf9 ?_
      refine pld hS 1 isAgg9 ?_
      refine pm hS ?_
      refine pnk hS ?_
      refine pfz hS 1 underlying79 sizeOf3 ?_
      refine pld hS 1 isAgg3 ?_
      refine vp_take rfl rfl rfl hS (fun w st => y_ixs (k := _) rfl rfl underlying9 rfl (by omega)) ?_
      refine vp_do rfl (e_call [_] rfl rfl call59 rfl (letter_any _ _) ?_)
      rintro _ _ ⟨rfl, rfl⟩
      refine vp_next (by exact st) ?_; intro hS
      refine vp_take rfl rfl rfl hS (fun w st => y_pickt rfl rfl) ?_
      refine vp_take rfl rfl rfl hS (fun w st => y_as rfl) ?_
      refine vp_end (vq_then (vk5 0 2 3 4 86 ?_))
      refine vif ?_ ?_
      intro hc86
      try simp only [dn] at hc86
      refine sr ?_
      iterate 2 refine ym ?_
      refine ynk ?_
      refine yfz 1 underlying79 sizeOf3 ?_
      refine yl st 1 isAgg3 ?_
      refine vc_e (e_call [_, _, _] rfl rfl call70 rfl (wrong_any b s _ _ _ _ _ _ (st.res (i := 1) rfl)) ?_)
      rintro _ w ⟨rfl, cw, hw⟩
      replace st := st.turn (i := 1) (r' := .blk b _) rfl rfl rfl cw (.inl (by simp)) hw
      dsimp only [setNth] at st
      refine vc_e (e_sts (vs := [_, _, _, _]) st 0 rfl rfl rfl rfl rfl sizeOf82 rfl rfl (by (right; assumption)) ?_)
      intro w st; dsimp only [setNth, wr] at st
      refine et (vk1 2 (vc_ret (vq_block_ret (vq_then_ret ?_))))
      rotate_left
      intro hc86
      try simp only [dn] at hc86
      refine vc_code_skip (vq_block (vq_then (vk4 0 2 3 4 (vc_seq ?_))))
      refine vc_draw Tryz.mixed [(0, true), (1, true), (2, true), (3, true), (4, true), (5, true), (6, true), (7, true), (8, true), (9, true), (10, true), (11, true), (12, true), (13, true), (14, false)] (fun w => St _ _ [.blk b (scn s j fa fr)] w) st.dr (by kernel_rfl) (by repeat (first | exact okQ_body | refine okQ_then ?_ | refine okQ_block ?_)) rfl (by kernel_rfl) ?_
      intro w cd; replace st := st.call0 cd; clear cd
      have hS : St _ _ [.blk b (scn s j fa fr)] w := st.dr
      refine pm hS ?_
      refine pnk hS ?_
      refine pf0 hS underlying79 sizeOf9 ?_
      refine pld hS 0 isAgg9 ?_
      iterate 2 refine pm hS ?_
      refine pnk hS ?_
      refine pfz hS 1 underlying79 sizeOf3 ?_
      refine pld hS 0 isAgg3 ?_
      refine vp_take rfl rfl rfl hS (fun w st => y_sls (i := _) (j := _) rfl rfl rfl underlying9 rfl rfl (by omega) (by omega)) ?_
      refine pm hS ?_
      refine vp_take rfl rfl rfl hS (fun w st => y_cvi rfl underlying2 underlying105 (IntWalk.i64_in _ ⟨by omega, by omega⟩ : _ = (n : Int))) ?_
      refine pm hS ?_
      refine vp_take rfl rfl rfl hS (fun w st => y_bld (.agg #[_, _, _, _]) [(0, _), (1, _), (2, _), (3, _)] rfl (fun w => by simp [Instr.build, go_sem] <;> repeat' constructor)) ?_
      refine vp_do rfl (e_sts (vs := [_, _, _, _]) st 0 rfl rfl rfl rfl rfl sizeOf82 rfl rfl (by (right; assumption)) ?_)
      intro w st; dsimp only [setNth, wr] at st
      refine vp_next st.dr ?_; intro hS
      refine vp_end (vq_then (vk1 2 (vc_ret ?_)))
     rotate_left 2
     intro hg97
     try simp only [dn] at hg97
     iterate 9 refine vp_skip rfl rfl rfl hS ?_
     refine vp_do rfl (e_skip rfl rfl (vp_next hS (fun hS => ?_)))
     refine vp_take rfl rfl rfl hS (fun w st => y_pickf rfl rfl) ?_
     refine vp_take rfl rfl rfl hS (fun w st => y_as rfl) ?_
     refine vp_end (vq_then (vk5 0 2 3 4 86 ?_))
     refine vc_iff rfl ?_
     refine vc_code_skip (vq_block (vq_then (vk4 0 2 3 4 (vc_seq ?_))))
     refine vc_draw Tryz.mixed [(0, true), (1, true), (2, true), (3, true), (4, true), (5, true), (6, true), (7, true), (8, true), (9, true), (10, true), (11, true), (12, true), (13, true), (14, false)] (fun w => St _ _ [.blk b (scn s j fa fr)] w) st.dr (by kernel_rfl) (by repeat (first | exact okQ_body | refine okQ_then ?_ | refine okQ_block ?_)) rfl (by kernel_rfl) ?_
     intro w cd; replace st := st.call0 cd; clear cd
     have hS : St _ _ [.blk b (scn s j fa fr)] w := st.dr
     refine pm hS ?_
     refine pnk hS ?_
     refine pf0 hS underlying79 sizeOf9 ?_
     refine pld hS 0 isAgg9 ?_
     iterate 2 refine pm hS ?_
     refine pnk hS ?_
     refine pfz hS 1 underlying79 sizeOf3 ?_
     refine pld hS 0 isAgg3 ?_
     refine vp_take rfl rfl rfl hS (fun w st => y_sls (i := _) (j := _) rfl rfl rfl underlying9 rfl rfl (by omega) (by omega)) ?_
     refine pm hS ?_
     refine vp_take rfl rfl rfl hS (fun w st => y_cvi rfl underlying2 underlying105 (IntWalk.i64_in _ ⟨by omega, by omega⟩ : _ = (n : Int))) ?_
     refine pm hS ?_
     refine vp_take rfl rfl rfl hS (fun w st => y_bld (.agg #[_, _, _, _]) [(0, _), (1, _), (2, _), (3, _)] rfl (fun w => by simp [Instr.build, go_sem] <;> repeat' constructor)) ?_
     refine vp_do rfl (e_sts (vs := [_, _, _, _]) st 0 rfl rfl rfl rfl rfl sizeOf82 rfl rfl (by (right; assumption)) ?_)
     intro w st; dsimp only [setNth, wr] at st
     refine vp_next st.dr ?_; intro hS
     refine vp_end (vq_then (vk1 2 (vc_ret ?_)))
  rotate_left 5
  focus
   intro hg71
   try simp only [dn] at hg71
   iterate 7 refine vsk ?_
   refine ypf ?_
   iterate 2 refine ym ?_
   refine ypf ?_
   refine ya ?_
   refine et (vk5 0 2 3 4 63 ?_)
   refine vif ?_ ?_
   intro hc63
   try simp only [dn] at hc63
   refine sr ?_
   iterate 2 refine ym ?_
   refine vc_e (e_call [_, _, _] rfl rfl call70 rfl (wrong_any b s _ _ _ _ _ _ (st.res (i := 1) rfl)) ?_)
   rintro _ w ⟨rfl, cw, hw⟩
   replace st := st.turn (i := 1) (r' := .blk b _) rfl rfl rfl cw (.inl (by simp)) hw
   dsimp only [setNth] at st
   refine vc_e (e_sts (vs := [_, _, _, _]) st 0 rfl rfl rfl rfl rfl sizeOf82 rfl rfl (by (right; assumption)) ?_)
   intro w st; dsimp only [setNth, wr] at st
   refine et (vk1 2 (vc_ret (vq_block_ret (vq_then_ret ?_))))
   rotate_left
   focus
    intro hc63
    try simp only [dn] at hc63
    have hnn := hn hc63
    have hM : n ≤ 9223372036854775807 := by rw [hc63] at hgr; have := of_decide_eq_false hgr.symm; omega
    refine vc_seq ?_
    refine vc_draw Tryz.mixed [(0, true), (1, true), (2, true), (3, true), (4, true), (5, true), (6, true), (7, true), (8, true), (9, true), (10, true), (11, true), (12, true), (13, true), (14, true), (15, true), (16, true), (17, true), (18, true), (19, true), (20, false), (21, true), (22, true)] (fun w => St _ _ _ w) st (by kernel_rfl) (by repeat (first | exact okQ_body | refine okQ_then ?_ | refine okQ_block ?_)) rfl (by kernel_rfl) ?_
    intro w cd; replace st := st.call0 cd; clear cd
    have hS := st
    refine pm hS ?_
    refine pnk hS ?_
    refine pfz hS 1 underlying79 sizeOf3 ?_
    refine pld hS 1 isAgg3 ?_
    refine pm hS ?_
    refine pnk hS ?_
    refine pf0 hS underlying79 sizeOf9 ?_
    refine pld hS 1 isAgg9 ?_
    refine vp_take rfl rfl rfl hS (fun w st => y_lens rfl underlying9) ?_
    refine vp_take rfl rfl rfl hS (fun w st => y_lss rfl rfl) ?_
    refine vp_part rfl rfl rfl hS rfl ?_ ?_
    focus
     intro hg97
     try simp only [dn] at hg97
     refine pm hS ?_
     refine pnk hS ?_
     refine pf0 hS underlying79 sizeOf9 ?_
     refine pld hS 1 isAgg9 ?_
     refine pm hS ?_
     refine pnk hS ?_
     refine pfz hS 1 underlying79 sizeOf3 ?_
     refine pld hS 1 isAgg3 ?_
     refine vp_take rfl rfl rfl hS (fun w st => y_ixs (k := _) rfl rfl underlying9 rfl (by omega)) ?_
     refine vp_do rfl (e_call [_] rfl rfl call59 rfl (letter_any _ _) ?_)
     rintro _ _ ⟨rfl, rfl⟩
     refine vp_next (by exact st) ?_; intro hS
     refine vp_take rfl rfl rfl hS (fun w st => y_pickt rfl rfl) ?_
     refine vp_take rfl rfl rfl hS (fun w st => y_as rfl) ?_
     refine vp_end (vq_then (vk5 0 2 3 4 86 ?_))
     refine vif ?_ ?_
     intro hc86
     try simp only [dn] at hc86
     refine sr ?_
     iterate 2 refine ym ?_
     refine ynk ?_
     refine yfz 1 underlying79 sizeOf3 ?_
     refine yl st 1 isAgg3 ?_
     refine vc_e (e_call [_, _, _] rfl rfl call70 rfl (wrong_any b s _ _ _ _ _ _ (st.res (i := 1) rfl)) ?_)
     rintro _ w ⟨rfl, cw, hw⟩
     replace st := st.turn (i := 1) (r' := .blk b _) rfl rfl rfl cw (.inl (by simp)) hw
     dsimp only [setNth] at st
     refine vc_e (e_sts (vs := [_, _, _, _]) st 0 rfl rfl rfl rfl rfl sizeOf82 rfl rfl (by (right; assumption)) ?_)
     intro w st; dsimp only [setNth, wr] at st
     refine et (vk1 2 (vc_ret (vq_block_ret (vq_then_ret ?_))))
     rotate_left
     intro hc86
     try simp only [dn] at hc86
     refine vc_code_skip (vq_block (vq_then (vk4 0 2 3 4 (vc_seq ?_))))
     refine vc_draw Tryz.mixed [(0, true), (1, true), (2, true), (3, true), (4, true), (5, true), (6, true), (7, true), (8, true), (9, true), (10, true), (11, true), (12, true), (13, true), (14, false)] (fun w => St _ _ [.blk b (scn s j fa fr)] w) st.dr (by kernel_rfl) (by repeat (first | exact okQ_body | refine okQ_then ?_ | refine okQ_block ?_)) rfl (by kernel_rfl) ?_
     intro w cd; replace st := st.call0 cd; clear cd
     have hS : St _ _ [.blk b (scn s j fa fr)] w := st.dr
     refine pm hS ?_
     refine pnk hS ?_
     refine pf0 hS underlying79 sizeOf9 ?_
     refine pld hS 0 isAgg9 ?_
     iterate 2 refine pm hS ?_
     refine pnk hS ?_
     refine pfz hS 1 underlying79 sizeOf3 ?_
     refine pld hS 0 isAgg3 ?_
     refine vp_take rfl rfl rfl hS (fun w st => y_sls (i := _) (j := _) rfl rfl rfl underlying9 rfl rfl (by omega) (by omega)) ?_
     refine pm hS ?_
     refine vp_take rfl rfl rfl hS (fun w st => y_cvi rfl underlying2 underlying105 (IntWalk.i64_in _ ⟨by omega, by omega⟩ : _ = (n : Int))) ?_
     refine pm hS ?_
     refine vp_take rfl rfl rfl hS (fun w st => y_bld (.agg #[_, _, _, _]) [(0, _), (1, _), (2, _), (3, _)] rfl (fun w => by simp [Instr.build, go_sem] <;> repeat' constructor)) ?_
     refine vp_do rfl (e_sts (vs := [_, _, _, _]) st 0 rfl rfl rfl rfl rfl sizeOf82 rfl rfl (by (right; assumption)) ?_)
     intro w st; dsimp only [setNth, wr] at st
     refine vp_next st.dr ?_; intro hS
     refine vp_end (vq_then (vk1 2 (vc_ret ?_)))
    rotate_left 2
    intro hg97
    try simp only [dn] at hg97
    iterate 9 refine vp_skip rfl rfl rfl hS ?_
    refine vp_do rfl (e_skip rfl rfl (vp_next hS (fun hS => ?_)))
    refine vp_take rfl rfl rfl hS (fun w st => y_pickf rfl rfl) ?_
    refine vp_take rfl rfl rfl hS (fun w st => y_as rfl) ?_
    refine vp_end (vq_then (vk5 0 2 3 4 86 ?_))
    refine vc_iff rfl ?_
    refine vc_code_skip (vq_block (vq_then (vk4 0 2 3 4 (vc_seq ?_))))
    refine vc_draw Tryz.mixed [(0, true), (1, true), (2, true), (3, true), (4, true), (5, true), (6, true), (7, true), (8, true), (9, true), (10, true), (11, true), (12, true), (13, true), (14, false)] (fun w => St _ _ [.blk b (scn s j fa fr)] w) st.dr (by kernel_rfl) (by repeat (first | exact okQ_body | refine okQ_then ?_ | refine okQ_block ?_)) rfl (by kernel_rfl) ?_
    intro w cd; replace st := st.call0 cd; clear cd
    have hS : St _ _ [.blk b (scn s j fa fr)] w := st.dr
    refine pm hS ?_
    refine pnk hS ?_
    refine pf0 hS underlying79 sizeOf9 ?_
    refine pld hS 0 isAgg9 ?_
    iterate 2 refine pm hS ?_
    refine pnk hS ?_
    refine pfz hS 1 underlying79 sizeOf3 ?_
    refine pld hS 0 isAgg3 ?_
    refine vp_take rfl rfl rfl hS (fun w st => y_sls (i := _) (j := _) rfl rfl rfl underlying9 rfl rfl (by omega) (by omega)) ?_
    refine pm hS ?_
    refine vp_take rfl rfl rfl hS (fun w st => y_cvi rfl underlying2 underlying105 (IntWalk.i64_in _ ⟨by omega, by omega⟩ : _ = (n : Int))) ?_
    refine pm hS ?_
    refine vp_take rfl rfl rfl hS (fun w st => y_bld (.agg #[_, _, _, _]) [(0, _), (1, _), (2, _), (3, _)] rfl (fun w => by simp [Instr.build, go_sem] <;> repeat' constructor)) ?_
    refine vp_do rfl (e_sts (vs := [_, _, _, _]) st 0 rfl rfl rfl rfl rfl sizeOf82 rfl rfl (by (right; assumption)) ?_)
    intro w st; dsimp only [setNth, wr] at st
    refine vp_next st.dr ?_; intro hS
    refine vp_end (vq_then (vk1 2 (vc_ret ?_)))
  all_goals
   refine vq_ret1 st (.inl rfl) results58 (by exact .cell 0 rfl rfl isAgg82 sizeOf82) ?_
   refine ⟨_, rfl, ?_⟩
   have hlen : (List.take (j - i) (List.drop i s)).length = j - i := by simp; omega
   have hpos : i < j := by
    rcases Nat.lt_or_ge i j with h | h
    ·exact h
    ·exfalso
     rw [show j - i = 0 by omega, List.take_zero, drop_cons hi, List.takeWhile_cons, if_pos hd] at hT
     cases hT
   refine ⟨st.chg, ?_⟩
   rw [tokAt_num hi hc hd, hT, hlen, show i + (j - i) = j by omega]
   have hr := st.res (i := 1) rfl
   first
   | (rw [if_pos (.inl ⟨by omega, u8_eq48 (by assumption)⟩)]; exact ⟨rfl, _, hr⟩)
   | (rw [if_pos (.inr (of_decide_eq_true (by rw [← hgr]; assumption)))]; exact ⟨rfl, _, hr⟩)
   | (have hNB : ¬((1 < j - i ∧ s.getD i 0 = 48) ∨ 9223372036854775807 < numVal (List.take (j - i) (List.drop i s))) := by
        rintro (⟨h1, h2⟩ | h2)
        · have h3 : ((s.getD i 0).toNat : Int) = 48 := by rw [h2]; rfl
          omega
        · omega
      rw [if_neg hNB]
      first
      | (rw [if_pos ⟨by omega, by assumption⟩]; exact ⟨rfl, _, hr⟩)
      | (rw [if_neg (by rintro ⟨h1, h2⟩; first | omega | simp_all)]
         exact ⟨by rw [← hnn]; rfl, by dsimp only; rw [hlen, show i + (j - i) = j by omega]; exact hr⟩))
 intro hg21
 try simp only [dn] at hg21
 have hT := tw_end (fun h => absurd h (by omega)) he
 iterate 9 refine vp_skip rfl rfl rfl hS ?_
 refine vp_do rfl (e_skip rfl rfl (vp_next hS (fun hS => ?_)))
 refine vp_take rfl rfl rfl hS (fun w st => y_pickf rfl rfl) ?_
 refine vp_end (vq_then (vk6 0 2 3 4 5 32 ?_))
 refine vc_iff rfl ?_
 refine vc_exit (vq_then_exit (vq_then_exit (vq_block_exit (vq_then (vk5 0 2 3 4 5 (vc_seq (vc_block (sr ?_))))))))
 refine ym ?_
 refine ynk ?_
 refine yfz 1 underlying79 sizeOf3 ?_
 refine yl st 1 isAgg3 ?_
 refine ym ?_
 refine vy (y_add rfl rfl rfl (by omega) (by omega)) ?_
 refine vy (y_gtr rfl rfl) ?_
 refine vmb ?_ ?_
 focus
  intro hg71
  try simp only [dn] at hg71
  refine ym ?_
  refine ynk ?_
  refine vy (y_fa0 rfl underlying79 rfl rfl sizeOf9 rfl) ?_
  refine yl st 1 isAgg9 ?_
  refine ym ?_
  refine vy (y_ixs (k := _) rfl rfl underlying9 rfl (by omega)) ?_
  refine vy (y_eqi rfl rfl) ?_
  refine ypt ?_
  refine vmb ?_ ?_
  intro hg80
  try simp only [dn] at hg80
  refine vsk ?_
  refine ypt ?_
  refine ya ?_
  refine et (vk5 0 2 3 4 63 ?_)
  refine vc_ift rfl ?_
  refine sr ?_
  iterate 2 refine ym ?_
  refine vc_e (e_call [_, _, _] rfl rfl call70 rfl (wrong_any b s _ _ _ _ _ _ (st.res (i := 1) rfl)) ?_)
  rintro _ w ⟨rfl, cw, hw⟩
  replace st := st.turn (i := 1) (r' := .blk b _) rfl rfl rfl cw (.inl (by simp)) hw
  dsimp only [setNth] at st
  refine vc_e (e_sts (vs := [_, _, _, _]) st 0 rfl rfl rfl rfl rfl sizeOf82 rfl rfl (by (right; assumption)) ?_)
  intro w st; dsimp only [setNth, wr] at st
  refine et (vk1 2 (vc_ret (vq_block_ret (vq_then_ret ?_))))
  rotate_left
  focus
   intro hg80
   try simp only [dn] at hg80
   refine ym ?_
   refine ypf ?_
   refine ya ?_
   refine et (vk5 0 2 3 4 63 ?_)
   refine vif ?_ ?_
   intro hc63
   try simp only [dn] at hc63
   refine sr ?_
   iterate 2 refine ym ?_
   refine vc_e (e_call [_, _, _] rfl rfl call70 rfl (wrong_any b s _ _ _ _ _ _ (st.res (i := 1) rfl)) ?_)
   rintro _ w ⟨rfl, cw, hw⟩
   replace st := st.turn (i := 1) (r' := .blk b _) rfl rfl rfl cw (.inl (by simp)) hw
   dsimp only [setNth] at st
   refine vc_e (e_sts (vs := [_, _, _, _]) st 0 rfl rfl rfl rfl rfl sizeOf82 rfl rfl (by (right; assumption)) ?_)
   intro w st; dsimp only [setNth, wr] at st
   refine et (vk1 2 (vc_ret (vq_block_ret (vq_then_ret ?_))))
   rotate_left
   focus
    intro hc63
    try simp only [dn] at hc63
    have hnn := hn hc63
    have hM : n ≤ 9223372036854775807 := by rw [hc63] at hgr; have := of_decide_eq_false hgr.symm; omega
    refine vc_seq ?_
    refine vc_draw Tryz.mixed [(0, true), (1, true), (2, true), (3, true), (4, true), (5, true), (6, true), (7, true), (8, true), (9, true), (10, true), (11, true), (12, true), (13, true), (14, true), (15, true), (16, true), (17, true), (18, true), (19, true), (20, false), (21, true), (22, true)] (fun w => St _ _ _ w) st (by kernel_rfl) (by repeat (first | exact okQ_body | refine okQ_then ?_ | refine okQ_block ?_)) rfl (by kernel_rfl) ?_
    intro w cd; replace st := st.call0 cd; clear cd
    have hS := st
    refine pm hS ?_
    refine pnk hS ?_
    refine pfz hS 1 underlying79 sizeOf3 ?_
    refine pld hS 1 isAgg3 ?_
    refine pm hS ?_
    refine pnk hS ?_
    refine pf0 hS underlying79 sizeOf9 ?_
    refine pld hS 1 isAgg9 ?_
    refine vp_take rfl rfl rfl hS (fun w st => y_lens rfl underlying9) ?_
    refine vp_take rfl rfl rfl hS (fun w st => y_lss rfl rfl) ?_
    refine vp_part rfl rfl rfl hS rfl ?_ ?_
    focus
     intro hg97
     try simp only [dn] at hg97
     refine pm hS ?_
     refine pnk hS ?_
     refine pf0 hS underlying79 sizeOf9 ?_
     refine pld hS 1 isAgg9 ?_
     refine pm hS ?_
     refine pnk hS ?_
     refine pfz hS 1 underlying79 sizeOf3 ?_
     refine pld hS 1 isAgg3 ?_
     refine vp_take rfl rfl rfl hS (fun w st => y_ixs (k := _) rfl rfl underlying9 rfl (by omega)) ?_
     refine vp_do rfl (e_call [_] rfl rfl call59 rfl (letter_any _ _) ?_)
     rintro _ _ ⟨rfl, rfl⟩
     refine vp_next (by exact st) ?_; intro hS
     refine vp_take rfl rfl rfl hS (fun w st => y_pickt rfl rfl) ?_
     refine vp_take rfl rfl rfl hS (fun w st => y_as rfl) ?_
     refine vp_end (vq_then (vk5 0 2 3 4 86 ?_))
     refine vif ?_ ?_
     intro hc86
     try simp only [dn] at hc86
     refine sr ?_
     iterate 2 refine ym ?_
     refine ynk ?_
     refine yfz 1 underlying79 sizeOf3 ?_
     refine yl st 1 isAgg3 ?_
     refine vc_e (e_call [_, _, _] rfl rfl call70 rfl (wrong_any b s _ _ _ _ _ _ (st.res (i := 1) rfl)) ?_)
     rintro _ w ⟨rfl, cw, hw⟩
     replace st := st.turn (i := 1) (r' := .blk b _) rfl rfl rfl cw (.inl (by simp)) hw
     dsimp only [setNth] at st
     refine vc_e (e_sts (vs := [_, _, _, _]) st 0 rfl rfl rfl rfl rfl sizeOf82 rfl rfl (by (right; assumption)) ?_)
     intro w st; dsimp only [setNth, wr] at st
     refine et (vk1 2 (vc_ret (vq_block_ret (vq_then_ret ?_))))
     rotate_left
     intro hc86
     try simp only [dn] at hc86
     refine vc_code_skip (vq_block (vq_then (vk4 0 2 3 4 (vc_seq ?_))))
     refine vc_draw Tryz.mixed [(0, true), (1, true), (2, true), (3, true), (4, true), (5, true), (6, true), (7, true), (8, true), (9, true), (10, true), (11, true), (12, true), (13, true), (14, false)] (fun w => St _ _ [.blk b (scn s j fa fr)] w) st.dr (by kernel_rfl) (by repeat (first | exact okQ_body | refine okQ_then ?_ | refine okQ_block ?_)) rfl (by kernel_rfl) ?_
     intro w cd; replace st := st.call0 cd; clear cd
     have hS : St _ _ [.blk b (scn s j fa fr)] w := st.dr
     refine pm hS ?_
     refine pnk hS ?_
     refine pf0 hS underlying79 sizeOf9 ?_
     refine pld hS 0 isAgg9 ?_
     iterate 2 refine pm hS ?_
     refine pnk hS ?_
     refine pfz hS 1 underlying79 sizeOf3 ?_
     refine pld hS 0 isAgg3 ?_
     refine vp_take rfl rfl rfl hS (fun w st => y_sls (i := _) (j := _) rfl rfl rfl underlying9 rfl rfl (by omega) (by omega)) ?_
     refine pm hS ?_
     refine vp_take rfl rfl rfl hS (fun w st => y_cvi rfl underlying2 underlying105 (IntWalk.i64_in _ ⟨by omega, by omega⟩ : _ = (n : Int))) ?_
     refine pm hS ?_
     refine vp_take rfl rfl rfl hS (fun w st => y_bld (.agg #[_, _, _, _]) [(0, _), (1, _), (2, _), (3, _)] rfl (fun w => by simp [Instr.build, go_sem] <;> repeat' constructor)) ?_
     refine vp_do rfl (e_sts (vs := [_, _, _, _]) st 0 rfl rfl rfl rfl rfl sizeOf82 rfl rfl (by (right; assumption)) ?_)
     intro w st; dsimp only [setNth, wr] at st
     refine vp_next st.dr ?_; intro hS
     refine vp_end (vq_then (vk1 2 (vc_ret ?_)))
    rotate_left 2
    intro hg97
    try simp only [dn] at hg97
    iterate 9 refine vp_skip rfl rfl rfl hS ?_
    refine vp_do rfl (e_skip rfl rfl (vp_next hS (fun hS => ?_)))
    refine vp_take rfl rfl rfl hS (fun w st => y_pickf rfl rfl) ?_
    refine vp_take rfl rfl rfl hS (fun w st => y_as rfl) ?_
    refine vp_end (vq_then (vk5 0 2 3 4 86 ?_))
    refine vc_iff rfl ?_
    refine vc_code_skip (vq_block (vq_then (vk4 0 2 3 4 (vc_seq ?_))))
    refine vc_draw Tryz.mixed [(0, true), (1, true), (2, true), (3, true), (4, true), (5, true), (6, true), (7, true), (8, true), (9, true), (10, true), (11, true), (12, true), (13, true), (14, false)] (fun w => St _ _ [.blk b (scn s j fa fr)] w) st.dr (by kernel_rfl) (by repeat (first | exact okQ_body | refine okQ_then ?_ | refine okQ_block ?_)) rfl (by kernel_rfl) ?_
    intro w cd; replace st := st.call0 cd; clear cd
    have hS : St _ _ [.blk b (scn s j fa fr)] w := st.dr
    refine pm hS ?_
    refine pnk hS ?_
    refine pf0 hS underlying79 sizeOf9 ?_
    refine pld hS 0 isAgg9 ?_
    iterate 2 refine pm hS ?_
    refine pnk hS ?_
    refine pfz hS 1 underlying79 sizeOf3 ?_
    refine pld hS 0 isAgg3 ?_
    refine vp_take rfl rfl rfl hS (fun w st => y_sls (i := _) (j := _) rfl rfl rfl underlying9 rfl rfl (by omega) (by omega)) ?_
    refine pm hS ?_
    refine vp_take rfl rfl rfl hS (fun w st => y_cvi rfl underlying2 underlying105 (IntWalk.i64_in _ ⟨by omega, by omega⟩ : _ = (n : Int))) ?_
    refine pm hS ?_
    refine vp_take rfl rfl rfl hS (fun w st => y_bld (.agg #[_, _, _, _]) [(0, _), (1, _), (2, _), (3, _)] rfl (fun w => by simp [Instr.build, go_sem] <;> repeat' constructor)) ?_
    refine vp_do rfl (e_sts (vs := [_, _, _, _]) st 0 rfl rfl rfl rfl rfl sizeOf82 rfl rfl (by (right; assumption)) ?_)
    intro w st; dsimp only [setNth, wr] at st
    refine vp_next st.dr ?_; intro hS
    refine vp_end (vq_then (vk1 2 (vc_ret ?_)))
 rotate_left 5
 focus
  intro hg71
  try simp only [dn] at hg71
  iterate 7 refine vsk ?_
  refine ypf ?_
  iterate 2 refine ym ?_
  refine ypf ?_
  refine ya ?_
  refine et (vk5 0 2 3 4 63 ?_)
  refine vif ?_ ?_
  intro hc63
  try simp only [dn] at hc63
  refine sr ?_
  iterate 2 refine ym ?_
  refine vc_e (e_call [_, _, _] rfl rfl call70 rfl (wrong_any b s _ _ _ _ _ _ (st.res (i := 1) rfl)) ?_)
  rintro _ w ⟨rfl, cw, hw⟩
  replace st := st.turn (i := 1) (r' := .blk b _) rfl rfl rfl cw (.inl (by simp)) hw
  dsimp only [setNth] at st
  refine vc_e (e_sts (vs := [_, _, _, _]) st 0 rfl rfl rfl rfl rfl sizeOf82 rfl rfl (by (right; assumption)) ?_)
  intro w st; dsimp only [setNth, wr] at st
  refine et (vk1 2 (vc_ret (vq_block_ret (vq_then_ret ?_))))
  rotate_left
  focus
   intro hc63
   try simp only [dn] at hc63
   have hnn := hn hc63
   have hM : n ≤ 9223372036854775807 := by rw [hc63] at hgr; have := of_decide_eq_false hgr.symm; omega
   refine vc_seq ?_
   refine vc_draw Tryz.mixed [(0, true), (1, true), (2, true), (3, true), (4, true), (5, true), (6, true), (7, true), (8, true), (9, true), (10, true), (11, true), (12, true), (13, true), (14, true), (15, true), (16, true), (17, true), (18, true), (19, true), (20, false), (21, true), (22, true)] (fun w => St _ _ _ w) st (by kernel_rfl) (by repeat (first | exact okQ_body | refine okQ_then ?_ | refine okQ_block ?_)) rfl (by kernel_rfl) ?_
   intro w cd; replace st := st.call0 cd; clear cd
   have hS := st
   refine pm hS ?_
   refine pnk hS ?_
   refine pfz hS 1 underlying79 sizeOf3 ?_
   refine pld hS 1 isAgg3 ?_
   refine pm hS ?_
   refine pnk hS ?_
   refine pf0 hS underlying79 sizeOf9 ?_
   refine pld hS 1 isAgg9 ?_
   refine vp_take rfl rfl rfl hS (fun w st => y_lens rfl underlying9) ?_
   refine vp_take rfl rfl rfl hS (fun w st => y_lss rfl rfl) ?_
   refine vp_part rfl rfl rfl hS rfl ?_ ?_
   focus
    intro hg97
    try simp only [dn] at hg97
    refine pm hS ?_
    refine pnk hS ?_
    refine pf0 hS underlying79 sizeOf9 ?_
    refine pld hS 1 isAgg9 ?_
    refine pm hS ?_
    refine pnk hS ?_
    refine pfz hS 1 underlying79 sizeOf3 ?_
    refine pld hS 1 isAgg3 ?_
    refine vp_take rfl rfl rfl hS (fun w st => y_ixs (k := _) rfl rfl underlying9 rfl (by omega)) ?_
    refine vp_do rfl (e_call [_] rfl rfl call59 rfl (letter_any _ _) ?_)
    rintro _ _ ⟨rfl, rfl⟩
    refine vp_next (by exact st) ?_; intro hS
    refine vp_take rfl rfl rfl hS (fun w st => y_pickt rfl rfl) ?_
    refine vp_take rfl rfl rfl hS (fun w st => y_as rfl) ?_
    refine vp_end (vq_then (vk5 0 2 3 4 86 ?_))
    refine vif ?_ ?_
    intro hc86
    try simp only [dn] at hc86
    refine sr ?_
    iterate 2 refine ym ?_
    refine ynk ?_
    refine yfz 1 underlying79 sizeOf3 ?_
    refine yl st 1 isAgg3 ?_
    refine vc_e (e_call [_, _, _] rfl rfl call70 rfl (wrong_any b s _ _ _ _ _ _ (st.res (i := 1) rfl)) ?_)
    rintro _ w ⟨rfl, cw, hw⟩
    replace st := st.turn (i := 1) (r' := .blk b _) rfl rfl rfl cw (.inl (by simp)) hw
    dsimp only [setNth] at st
    refine vc_e (e_sts (vs := [_, _, _, _]) st 0 rfl rfl rfl rfl rfl sizeOf82 rfl rfl (by (right; assumption)) ?_)
    intro w st; dsimp only [setNth, wr] at st
    refine et (vk1 2 (vc_ret (vq_block_ret (vq_then_ret ?_))))
    rotate_left
    intro hc86
    try simp only [dn] at hc86
    refine vc_code_skip (vq_block (vq_then (vk4 0 2 3 4 (vc_seq ?_))))
    refine vc_draw Tryz.mixed [(0, true), (1, true), (2, true), (3, true), (4, true), (5, true), (6, true), (7, true), (8, true), (9, true), (10, true), (11, true), (12, true), (13, true), (14, false)] (fun w => St _ _ [.blk b (scn s j fa fr)] w) st.dr (by kernel_rfl) (by repeat (first | exact okQ_body | refine okQ_then ?_ | refine okQ_block ?_)) rfl (by kernel_rfl) ?_
    intro w cd; replace st := st.call0 cd; clear cd
    have hS : St _ _ [.blk b (scn s j fa fr)] w := st.dr
    refine pm hS ?_
    refine pnk hS ?_
    refine pf0 hS underlying79 sizeOf9 ?_
    refine pld hS 0 isAgg9 ?_
    iterate 2 refine pm hS ?_
    refine pnk hS ?_
    refine pfz hS 1 underlying79 sizeOf3 ?_
    refine pld hS 0 isAgg3 ?_
    refine vp_take rfl rfl rfl hS (fun w st => y_sls (i := _) (j := _) rfl rfl rfl underlying9 rfl rfl (by omega) (by omega)) ?_
    refine pm hS ?_
    refine vp_take rfl rfl rfl hS (fun w st => y_cvi rfl underlying2 underlying105 (IntWalk.i64_in _ ⟨by omega, by omega⟩ : _ = (n : Int))) ?_
    refine pm hS ?_
    refine vp_take rfl rfl rfl hS (fun w st => y_bld (.agg #[_, _, _, _]) [(0, _), (1, _), (2, _), (3, _)] rfl (fun w => by simp [Instr.build, go_sem] <;> repeat' constructor)) ?_
    refine vp_do rfl (e_sts (vs := [_, _, _, _]) st 0 rfl rfl rfl rfl rfl sizeOf82 rfl rfl (by (right; assumption)) ?_)
    intro w st; dsimp only [setNth, wr] at st
    refine vp_next st.dr ?_; intro hS
    refine vp_end (vq_then (vk1 2 (vc_ret ?_)))
   rotate_left 2
   intro hg97
   try simp only [dn] at hg97
   iterate 9 refine vp_skip rfl rfl rfl hS ?_
   refine vp_do rfl (e_skip rfl rfl (vp_next hS (fun hS => ?_)))
   refine vp_take rfl rfl rfl hS (fun w st => y_pickf rfl rfl) ?_
   refine vp_take rfl rfl rfl hS (fun w st => y_as rfl) ?_
   refine vp_end (vq_then (vk5 0 2 3 4 86 ?_))
   refine vc_iff rfl ?_
   refine vc_code_skip (vq_block (vq_then (vk4 0 2 3 4 (vc_seq ?_))))
   refine vc_draw Tryz.mixed [(0, true), (1, true), (2, true), (3, true), (4, true), (5, true), (6, true), (7, true), (8, true), (9, true), (10, true), (11, true), (12, true), (13, true), (14, false)] (fun w => St _ _ [.blk b (scn s j fa fr)] w) st.dr (by kernel_rfl) (by repeat (first | exact okQ_body | refine okQ_then ?_ | refine okQ_block ?_)) rfl (by kernel_rfl) ?_
   intro w cd; replace st := st.call0 cd; clear cd
   have hS : St _ _ [.blk b (scn s j fa fr)] w := st.dr
   refine pm hS ?_
   refine pnk hS ?_
   refine pf0 hS underlying79 sizeOf9 ?_
   refine pld hS 0 isAgg9 ?_
   iterate 2 refine pm hS ?_
   refine pnk hS ?_
   refine pfz hS 1 underlying79 sizeOf3 ?_
   refine pld hS 0 isAgg3 ?_
   refine vp_take rfl rfl rfl hS (fun w st => y_sls (i := _) (j := _) rfl rfl rfl underlying9 rfl rfl (by omega) (by omega)) ?_
   refine pm hS ?_
   refine vp_take rfl rfl rfl hS (fun w st => y_cvi rfl underlying2 underlying105 (IntWalk.i64_in _ ⟨by omega, by omega⟩ : _ = (n : Int))) ?_
   refine pm hS ?_
   refine vp_take rfl rfl rfl hS (fun w st => y_bld (.agg #[_, _, _, _]) [(0, _), (1, _), (2, _), (3, _)] rfl (fun w => by simp [Instr.build, go_sem] <;> repeat' constructor)) ?_
   refine vp_do rfl (e_sts (vs := [_, _, _, _]) st 0 rfl rfl rfl rfl rfl sizeOf82 rfl rfl (by (right; assumption)) ?_)
   intro w st; dsimp only [setNth, wr] at st
   refine vp_next st.dr ?_; intro hS
   refine vp_end (vq_then (vk1 2 (vc_ret ?_)))
 all_goals
  refine vq_ret1 st (.inl rfl) results58 (by exact .cell 0 rfl rfl isAgg82 sizeOf82) ?_
  refine ⟨_, rfl, ?_⟩
  have hlen : (List.take (j - i) (List.drop i s)).length = j - i := by simp; omega
  have hpos : i < j := by
   rcases Nat.lt_or_ge i j with h | h
   ·exact h
   ·exfalso
    rw [show j - i = 0 by omega, List.take_zero, drop_cons hi, List.takeWhile_cons, if_pos hd] at hT
    cases hT
  refine ⟨st.chg, ?_⟩
  rw [tokAt_num hi hc hd, hT, hlen, show i + (j - i) = j by omega]
  have hr := st.res (i := 1) rfl
  first
  | (rw [if_pos (.inl ⟨by omega, u8_eq48 (by assumption)⟩)]; exact ⟨rfl, _, hr⟩)
  | (rw [if_pos (.inr (of_decide_eq_true (by rw [← hgr]; assumption)))]; exact ⟨rfl, _, hr⟩)
  | (have hNB : ¬((1 < j - i ∧ s.getD i 0 = 48) ∨ 9223372036854775807 < numVal (List.take (j - i) (List.drop i s))) := by
       rintro (⟨h1, h2⟩ | h2)
       · have h3 : ((s.getD i 0).toNat : Int) = 48 := by rw [h2]; rfl
         omega
       · omega
     rw [if_neg hNB]
     first
     | (rw [if_pos ⟨by omega, by assumption⟩]; exact ⟨rfl, _, hr⟩)
     | (rw [if_neg (by rintro ⟨h1, h2⟩; omega)]
        exact ⟨by rw [← hnn]; rfl, by dsimp only; rw [hlen, show i + (j - i) = j by omega]; exact hr⟩))
end Go.Proofs.YtggnfanphcaamaaGreatDoor


namespace Go.Proofs.YtggnfanphcaamaaGreatDoor
open Go.RowKit Sx LexS _root_.Go.Proofs.Tryz
abbrev tok4 (k : Int) (t : List UInt8) (wd a : Int) : List Value := [.int .u8 k, str t, .int .i64 wd, .int .i64 a]
/-- the same, its parts named -/
def RdFlat (s : List UInt8) (i : Nat) (fa fr : Int) (res : TokR) (k : Int) (t : List UInt8) (wd a j fa' fr' : Int) : Prop := match res with
 | .tok x => k = x.kind ∧ t = x.text ∧ wd = x.word ∧ a = x.at_ ∧ j = ((i + x.text.length : Nat) : Int) ∧ fa' = fa ∧ fr' = fr
 | .bad rule p => k = 0 ∧ t = [] ∧ wd = 0 ∧ a = 0 ∧ fa' = p ∧ fr' = rule
theorem rd_flat {b : Nat} {s : List UInt8} {i : Nat} {fa fr : Int} {res : TokR} {v : Value} {w' : World} (h : RdPost b s i fa fr res v w') :
    ∃ k t wd a j fa' fr', v = .agg (tok4 k t wd a).toArray ∧ w'.heap[b]? = some (scn s j fa' fr') ∧ RdFlat s i fa fr res k t wd a j fa' fr' := by
 cases res with
 | tok x => exact ⟨_, _, _, _, _, _, _, h.1, h.2, rfl, rfl, rfl, rfl, rfl, rfl, rfl⟩
 | bad rule p => obtain ⟨h1, j, h2⟩ := h; exact ⟨0, [], 0, 0, j, _, _, h1, h2, rfl, rfl, rfl, rfl, rfl, rfl⟩
theorem bad_rule {r : List UInt8} {i rule p : Nat} (h : tokAt r i = .bad rule p) : 1 ≤ rule ∧ rule ≤ 4 := by
 simp only [tokAt] at h
 (repeat' split at h) <;> first | (simp at h; done) | (simp at h; omega)
/-- what 'next' leaves: the token, or none -/
def NxPost (b : Nat) (s : List UInt8) (i : Nat) (v : Value) (w' : World) : Prop :=
 if s.length ≤ i + skip (s.drop i) then v = .tuple #[.agg zeroL.toArray, .bool false] ∧ ∃ j : Int, w'.heap[b]? = some (scn s j 0 0)
 else match tokAt (s.drop (i + skip (s.drop i))) (i + skip (s.drop i)) with
  | .tok x => v = .tuple #[.agg (tokL x).toArray, .bool true] ∧ w'.heap[b]? = some (scn s ((i + skip (s.drop i) + x.text.length : Nat) : Int) 0 0)
  | .bad rule p => v = .tuple #[.agg zeroL.toArray, .bool false] ∧ ∃ j : Int, w'.heap[b]? = some (scn s j (p : Int) (rule : Int))

set_option maxHeartbeats 1000000 in
theorem next_any (b : Nat) (s : List UInt8) (i : Nat) (w : World) (hb : w.heap[b]? = some (scn s i 0 0)) (hi : i ≤ s.length) (hs : s.length ≤ 3000000) :
    Ret Tryz.prog 40 [.pointer (some ⟨b, 0, none⟩)] w fun v w' => Chg [b] w w' ∧ NxPost b s i v w' := by
 refine ret_of [_] func40 rfl ntmps40 rfl ?_
 have st := St.init w [b]
 have hle := skip_le (s.drop i)
 simp only [List.length_drop] at hle
 replace st := St.of1 [b] hb
 refine sr ?_
 refine vc_e (e_al (l := [_, _, _, _]) st rfl rfl zeroValue82 rfl ?_)
 intro b2 w hb2 st
 refine ya ?_
 refine et (vk2 0 2 (sr ?_))
 refine ym ?_
 refine vc_e (e_call [_] rfl rfl call55 rfl (over_any b s i _ _ _ (st.res (i := 1) rfl) hi hs) ?_)
 rintro _ w ⟨rfl, cw, hw⟩
 replace st := st.turn (i := 1) (r' := .blk b _) rfl rfl rfl cw (.inl (by simp)) hw
 dsimp only [setNth] at st
 have hi1 : i + skip (List.drop i s) ≤ s.length := by omega
 refine et (vk2 0 2 (vc_seq (vc_seq ?_)))
 refine vc_draw Tryz.mixed [(0, true), (1, true), (2, true), (3, true), (4, true), (5, true), (6, true), (7, true), (8, true), (9, true)] (fun w => St _ _ _ w) st (by kernel_rfl) (by repeat (first | exact okQ_body | refine okQ_then ?_ | refine okQ_block ?_)) rfl (by kernel_rfl) ?_
 intro w cd; replace st := st.call0 cd; clear cd
 have hS := st
 refine pm hS ?_
 refine pnk hS ?_
 refine pfz hS 1 underlying79 sizeOf3 ?_
 refine pld hS 1 isAgg3 ?_
 refine pm hS ?_
 refine pnk hS ?_
 refine pf0 hS underlying79 sizeOf9 ?_
 refine pld hS 1 isAgg9 ?_
 refine vp_take rfl rfl rfl hS (fun w st => y_lens rfl underlying9) ?_
 refine vp_take rfl rfl rfl hS (fun w st => y_geq rfl rfl) ?_
 refine vp_end (vq_then (vk3 0 2 19 ?_))
 refine vif ?_ ?_
 ·intro hc19
  try simp only [dn] at hc19
  refine sr ?_
  refine vy (y_bld (.agg #[_, _, _, _]) [] rfl (fun w => by simp [Instr.build, go_sem] <;> repeat' constructor)) ?_
  refine vc_e (e_sts (vs := [_, _, _, _]) st 0 rfl rfl rfl rfl rfl sizeOf82 rfl rfl (by (right; assumption)) ?_)
  intro w st; dsimp only [setNth, wr] at st
  refine ya ?_
  refine et (vk2 2 3 (vc_ret (vq_then_ret ?_)))
  refine vq_ret2 st (.inl rfl) results40 (by exact .cell 0 rfl rfl isAgg82 sizeOf82) (.tmp rfl) ?_
  refine ⟨_, rfl, ?_⟩
  refine ⟨st.chg, ?_⟩
  unfold NxPost
  rw [if_pos (by omega)]
  exact ⟨rfl, _, st.res (i := 1) rfl⟩
 intro hc19
 try simp only [dn] at hc19
 refine kt (vk2 0 2 (sr ?_))
 refine ym ?_
 refine vy (y_mf [_] [] rfl rfl) ?_
 refine ym ?_
 refine vy (y_mf [_] [] rfl rfl) ?_
 refine ym ?_
 refine vy (y_mf [_] [] rfl rfl) ?_
 refine vy (y_bld (.agg #[_, _, _]) [(0, _), (1, _), (2, _)] rfl (fun w => by simp [Instr.build, go_sem] <;> repeat' constructor)) ?_
 refine vc_e (e_al (l := [_, _, _]) st rfl rfl zeroValue94 rfl ?_)
 intro b4 w hb4 st
 refine vc_e (e_sts (vs := [_, _, _]) st 0 rfl rfl rfl rfl rfl sizeOf94 rfl rfl (by (right; assumption)) ?_)
 intro w st; dsimp only [setNth, wr] at st
 refine et (vk3 0 2 4 (sr ?_))
 refine ya ?_
 refine et (vk4 0 2 4 5 (vc_seq (vc_seq ?_)))
 refine vc_draw Tryz.mixed [(0, true), (1, true), (2, true), (3, true), (4, true), (5, true), (6, true), (7, true), (8, true), (9, true)] (fun w => St _ _ _ w) st (by kernel_rfl) (by repeat (first | exact okQ_body | refine okQ_then ?_ | refine okQ_block ?_)) rfl (by kernel_rfl) ?_
 intro w cd; replace st := st.call0 cd; clear cd
 have hS := st
 refine pm hS ?_
 refine pnk hS ?_
 refine pf0 hS underlying79 sizeOf9 ?_
 refine pld hS 2 isAgg9 ?_
 refine pm hS ?_
 refine pnk hS ?_
 refine pfz hS 1 underlying79 sizeOf3 ?_
 refine pld hS 2 isAgg3 ?_
 refine vp_take rfl rfl rfl hS (fun w st => y_ixs (k := _) rfl rfl underlying9 rfl (by omega)) ?_
 refine vp_take rfl rfl rfl hS (fun w st => y_as rfl) ?_
 refine vp_end (vq_then (vk5 0 2 4 5 6 (vc_block (sr ?_))))
 refine ym ?_
 refine vc_e (e_call [_] rfl rfl call59 rfl (letter_any _ _) ?_)
 rintro _ _ ⟨rfl, rfl⟩
 refine ya ?_
 refine et (vk6 0 2 4 5 6 37 ?_)
 refine vif ?_ ?_
 intro hc37
 try simp only [dn] at hc37
 refine vc_region ?_
 refine ya ?_
 refine vc_end (vq_block (vq_then (vk4 0 2 4 5 (sr ?_))))
 refine ym ?_
 refine vy (y_iaa (k := 1) rfl rfl underlying94 sizeOf86 rfl (by omega)) ?_
 refine yl st 0 isAgg86 ?_
 refine vc_e (e_callv [] rfl rfl rfl call57 rfl (word_rd b s _ _ _ _ (st.res (i := 2) rfl) (by omega) hs (by assumption)) ?_)
 rotate_left
 focus
  intro hc37
  try simp only [dn] at hc37
  refine sr ?_
  refine ym ?_
  refine vc_e (e_call [_] rfl rfl call60 rfl (digit_any _ _) ?_)
  rintro _ _ ⟨rfl, rfl⟩
  refine ya ?_
  refine et (vk5 0 2 4 5 40 ?_)
  refine vif ?_ ?_
  intro hc40
  try simp only [dn] at hc40
  refine vc_region ?_
  refine ya ?_
  refine vc_end (vq_block (vq_then (vk4 0 2 4 5 (sr ?_))))
  refine ym ?_
  refine vy (y_iaa (k := 2) rfl rfl underlying94 sizeOf86 rfl (by omega)) ?_
  refine yl st 0 isAgg86 ?_
  refine vc_e (e_callv [] rfl rfl rfl call58 rfl (number_rd b s _ _ _ _ (st.res (i := 2) rfl) (by omega) hs (by assumption) (by assumption)) ?_)
  rotate_left
  intro hc40
  try simp only [dn] at hc40
  refine vc_code_skip (vq_block (vq_then (vk4 0 2 4 5 (sr ?_))))
  refine ym ?_
  refine vy (y_iaa (k := 0) rfl rfl underlying94 sizeOf86 rfl (by omega)) ?_
  refine yl st 0 isAgg86 ?_
  refine vc_e (e_callv [] rfl rfl rfl call56 rfl (sign_rd b s _ _ _ _ (st.res (i := 2) rfl) (by omega) hs (by assumption) (by assumption)) ?_)
 all_goals
  rintro _ w ⟨cw, hp⟩
  obtain ⟨k, t, wd, a, j, fa', fr', rfl, hw, hf⟩ := rd_flat hp
  replace st := st.turn (i := 2) (r' := .blk b _) rfl rfl rfl cw (.inl (by simp)) hw
  dsimp only [setNth] at st
  refine vc_e (e_al (l := [_, _, _, _]) st rfl rfl zeroValue82 rfl ?_)
  intro b7 w hb7 st
  refine vc_e (e_sts (vs := [_, _, _, _]) st 0 rfl rfl rfl rfl rfl sizeOf82 rfl rfl (by (right; assumption)) ?_)
  intro w st; dsimp only [setNth, wr] at st
  refine et (vk3 0 2 7 (vc_seq ?_))
  refine vc_draw Tryz.mixed [(0, true), (1, true), (2, true), (3, true), (4, true), (5, true), (6, true), (7, false), (8, true)] (fun w => St _ _ [.blk b7 (.cells (tok4 k t wd a).toArray 82 (0, 0)), .blk b (scn s j fa' fr')] w) st.dr (by kernel_rfl) (by repeat (first | exact okQ_body | refine okQ_then ?_ | refine okQ_block ?_)) rfl (by kernel_rfl) ?_
  intro w cd; replace st := st.call0 cd; clear cd
  have hS : St _ _ [.blk b7 (.cells (tok4 k t wd a).toArray 82 (0, 0)), .blk b (scn s j fa' fr')] w := st.dr
  refine vp_take rfl rfl rfl hS (fun w st => y_lda (vs := [_, _, _, _]) st 0 rfl isAgg82 sizeOf82 rfl rfl) ?_
  refine pm hS ?_
  refine pnk hS ?_
  refine pfz hS 2 underlying79 sizeOf28 ?_
  refine vp_take rfl rfl rfl hS (fun w st => y_fa (k := 1) rfl underlying28 rfl rfl sizeOf3 rfl) ?_
  refine pld hS 1 isAgg3 ?_
  refine vp_take rfl rfl rfl hS (fun w st => y_eqi rfl rfl) ?_
  refine vp_do rfl (e_sts (vs := [_, _, _, _]) st 2 rfl rfl rfl rfl rfl sizeOf82 rfl rfl (by (right; assumption)) ?_)
  intro w st; dsimp only [setNth, wr] at st
  refine vp_next st.dr ?_; intro hS
  refine vp_take rfl rfl rfl hS (fun w st => y_as rfl) ?_
  refine vp_end (vq_then (vk2 2 3 (vc_ret ?_)))
  refine vq_ret2 st (.inl rfl) results40 (by exact .cell 2 rfl rfl isAgg82 sizeOf82) (.tmp rfl) ?_
  refine ⟨_, rfl, ?_⟩
  refine ⟨st.chg, ?_⟩
  unfold NxPost
  rw [if_neg (by omega)]
  have hr := st.res (i := 3) rfl
  cases hR : tokAt (List.drop (i + skip (List.drop i s)) s) (i + skip (List.drop i s)) with
  | tok x => rw [hR] at hf; obtain ⟨rfl, rfl, rfl, rfl, rfl, rfl, rfl⟩ := hf; exact ⟨rfl, hr⟩
  | bad rule p =>
   have hb' := bad_rule hR
   rw [hR] at hf; obtain ⟨rfl, rfl, rfl, rfl, rfl, rfl⟩ := hf
   refine ⟨?_, _, hr⟩
   rw [show (decide ((rule : Int) = 0)) = false from by simp; omega]
end Go.Proofs.YtggnfanphcaamaaGreatDoor

