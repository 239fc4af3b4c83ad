/- A part of the proof: contracts of functions and plain laws; each theorem says its own conditions. -/
import Derived.Test.YtnmhlpnapgojjaaGreatDoorTopReadK2
import Derived.Test.YtnmhlpnapgojjaaGreatDoorTopReadTryzShelfP
import Derived.Test.YtnmhlpnapgojjaaGreatDoorTopReadK1
import Derived.Test.YtnmhlpnapgojjaaGreatDoorTopReadK9
import Derived.Test.YtnmhlpnapgojjaaGreatDoorTopReadK3
set_option linter.unusedVariables false
set_option linter.unusedSimpArgs false
namespace Go.Proofs.YtnmhlpnapgojjaaGreatDoor
open Go.RowKit Sx LexS _root_.Go.Proofs.Tryz
/-- the scanner's block -/
abbrev scn (s : List UInt8) (i : Int) (fa fr : Int) : Obj := .cells [str s, .int .i64 i, .int .i64 fa, .int .i64 fr].toArray 178 (0, 0)
theorem idxByte_any (l : List UInt8) (w : World) : Ret Tryz.prog 227 [str l, .int .u8 10] w fun v w' => v = .int .i64 (Lib.indexByte l 10) ∧ w' = w :=
 (Tryz.strings_IndexByte ⟨l.toArray⟩ 10 w).mono fun e w' ⟨he, hw⟩ => ⟨_, he, rfl, hw⟩
theorem hasPrefix_eq (l : List UInt8) : Lib.hasPrefix l [47, 47] = isRem l := by
 match l with
 | [] => rfl
 | [a] => simp [Lib.hasPrefix, isRem, List.isPrefixOf]
 | a :: b :: r =>
  have h : Lib.hasPrefix (a :: b :: r) [47, 47] = ((47 == a) && (47 == b)) := by simp [Lib.hasPrefix, List.isPrefixOf]
  rw [h, isRem]
  apply Bool.eq_iff_iff.2
  simp only [Bool.and_eq_true, beq_iff_eq, decide_eq_true_eq]
  exact ⟨fun ⟨h1, h2⟩ => ⟨h1.symm, h2.symm⟩, fun ⟨h1, h2⟩ => ⟨h1.symm, h2.symm⟩⟩
theorem hasRem_any (l : List UInt8) (w : World) : Ret Tryz.prog 154 [str l, str [47, 47]] w fun v w' => v = .bool (isRem l) ∧ w' = w :=
 (Tryz.strings_HasPrefix ⟨l.toArray⟩ ⟨[47, 47].toArray⟩ w).mono fun e w' ⟨he, hw⟩ => ⟨_, he, by rw [← hasPrefix_eq], hw⟩
theorem drop_cons {s : List UInt8} {j : Nat} (h : j < s.length) : s.drop j = s.getD j 0 :: s.drop (j + 1) := by
 rw [List.drop_eq_getElem_cons h]; simp [List.getD, h]
theorem over_any (b : Nat) (s : List UInt8) (i : Nat) (fa fr : Int) (w : World) (hb : w.heap[b]? = some (scn s i fa fr)) (hi : i ≤ s.length) (hs : s.length ≤ 3000000) :
    Ret Tryz.prog 197 [.pointer (some ⟨b, 0, none⟩)] w fun v w' => v = .tuple #[] ∧ Chg [b] w w' ∧ w'.heap[b]? = some (scn s ((i + skip (s.drop i) : Nat) : Int) fa fr) := by
 refine ret_of [_] func197 rfl ntmps197 rfl ?_
 have st := St.init w [b]
 replace st := St.of1 [b] hb
 refine vc_block ?_
 refine vc_loop (w0 := _) (M := _) (fun _ => [(0, .pointer (some ⟨b, 0, none⟩))]) (fun (j : Nat) => [.blk b (scn s j fa fr)]) (fun j _ => j ≤ s.length ∧ j + skip (s.drop j) = i + skip (s.drop i)) (fun j => s.length - j) i ⟨rfl, trivial⟩ st ⟨hi, rfl⟩ ?_
 rintro j w ⟨hj, he⟩ st
 refine vc_seq (vc_seq ?_)
 refine vdr0 Tryz.mixed [Yt 0, Yt 1, Yt 2, Yt 3, Yt 4, Yt 5, Yt 6, Yt 7, Yt 8, Yt 9] st ?_
 clear st; intro w st hS
 refine pm hS ?_
 refine pnk hS ?_
 refine pfz hS 1 underlying178 sizeOf3 ?_
 refine pld hS 0 isAgg3 ?_
 refine pm hS ?_
 refine pnk hS ?_
 refine pf0 hS underlying178 sizeOf9 ?_
 refine pld hS 0 isAgg9 ?_
 refine vp_take rfl rfl rfl hS (fun w st => y_lens rfl underlying9) ?_
 refine vp_take rfl rfl rfl hS (fun w st => y_lss rfl rfl) ?_
 refine vp_end (vq_then (vk2 0 12 ?_))
 refine vif ?_ ?_
 ·intro hc12
  try simp only [dn] at hc12
  have hd := drop_cons (s := s) (j := j) (by omega)
  refine kt (vk1 0 (vc_block (vc_block (vc_seq ?_))))
  refine vdr0 Tryz.mixed [Yt 0, Yt 1, Yt 2, Yt 3, Yt 4, Yt 5, Yt 6, Yt 7, Yt 8, Nt 9, Yt 10] st ?_
  clear st; intro w st hS
  refine pm hS ?_
  refine pnk hS ?_
  refine pf0 hS underlying178 sizeOf9 ?_
  refine pld hS 0 isAgg9 ?_
  refine pm hS ?_
  refine pnk hS ?_
  refine pfz hS 1 underlying178 sizeOf3 ?_
  refine pld hS 0 isAgg3 ?_
  refine vp_take rfl rfl rfl hS (fun w st => y_ixs (k := _) rfl rfl underlying9 rfl (by omega)) ?_
  refine vp_do rfl (e_call [_] rfl rfl call226 rfl (blank_any _ _) ?_)
  rintro _ _ ⟨rfl, rfl⟩
  refine vp_next (by exact st) ?_; intro hS
  refine vp_take rfl rfl rfl hS (fun w st => y_as rfl) ?_
  refine vp_end (vq_then (vk2 0 13 ?_))
  refine vif ?_ ?_
  ·intro hc13
   try simp only [dn] at hc13
   refine vc_region ?_
   refine ym ?_
   refine ynk ?_
   refine yfz 1 underlying178 sizeOf3 ?_
   refine yl st 0 isAgg3 ?_
   refine vy (y_add rfl rfl rfl (by omega) (by omega)) ?_
   refine ynk ?_
   refine yfz 1 underlying178 sizeOf3 ?_
   first
   | refine vc_e (est st 0 sizeOf3 ?_)
   intro w st; dsimp only [setNth, wr] at st
   refine vc_end (vq_block (vq_block ?_))
   refine vq_again (j + 1)  ⟨rfl, trivial⟩ st ?_ ?_
   ·exact ⟨by omega, by rw [hd, skip_blank hc13] at he; omega⟩
   omega
  intro hc13
  try simp only [dn] at hc13
  refine vc_seq ?_
  refine vdr0 Tryz.mixed [Yt 0, Yt 1, Yt 2, Yt 3, Yt 4, Yt 5, Yt 6, Yt 7, Yt 8, Nt 9, Yt 10] st ?_
  clear st; intro w st hS
  refine pm hS ?_
  refine pnk hS ?_
  refine pf0 hS underlying178 sizeOf9 ?_
  refine pld hS 0 isAgg9 ?_
  refine pm hS ?_
  refine pnk hS ?_
  refine pfz hS 1 underlying178 sizeOf3 ?_
  refine pld hS 0 isAgg3 ?_
  refine vp_take rfl rfl rfl hS (fun w st => y_slf (i := _) rfl rfl underlying9 rfl (by omega)) ?_
  refine vp_do rfl (e_call [_, _] rfl rfl call154 rfl (hasRem_any _ _) ?_)
  rintro _ _ ⟨rfl, rfl⟩
  refine vp_next (by exact st) ?_; intro hS
  refine vp_take rfl rfl rfl hS (fun w st => y_as rfl) ?_
  refine vp_end (vq_then (vk2 0 31 ?_))
  refine vif ?_ ?_
  ·intro hc31
   try simp only [dn] at hc31
   refine vc_seq ?_
   refine vdr0 Tryz.mixed [Yt 0, Yt 1, Yt 2, Yt 3, Yt 4, Yt 5, Yt 6, Yt 7, Yt 8, Nt 9, Yt 10] st ?_
   clear st; intro w st hS
   refine pm hS ?_
   refine pnk hS ?_
   refine pf0 hS underlying178 sizeOf9 ?_
   refine pld hS 0 isAgg9 ?_
   refine pm hS ?_
   refine pnk hS ?_
   refine pfz hS 1 underlying178 sizeOf3 ?_
   refine pld hS 0 isAgg3 ?_
   refine vp_take rfl rfl rfl hS (fun w st => y_slf (i := _) rfl rfl underlying9 rfl (by omega)) ?_
   refine vp_do rfl (e_call [_, _] rfl rfl call227 rfl (idxByte_any _ _) ?_)
   rintro _ _ ⟨rfl, rfl⟩
   have hle := toLf_le (s.drop j)
   simp only [List.length_drop] at hle
   have hn := indexByte_lf (s.drop j)
   simp only [List.length_drop] at hn
   refine vp_next (by exact st) ?_; intro hS
   refine vp_take rfl rfl rfl hS (fun w st => y_as rfl) ?_
   refine vp_end (vq_then (vk2 0 2 (vc_seq (sr ?_))))
   refine ym ?_
   refine vy (y_lss rfl rfl) ?_
   refine et (vk3 0 2 53 ?_)
   refine vif ?_ ?_
   intro hc53
   try simp only [dn] at hc53
   refine vdr0 Tryz.mixed [Yt 0, Yt 1, Yt 2, Yt 3, Yt 4, Yt 5, Yt 6, Yt 7, Yt 8, Yt 9, Yt 10] st ?_
   clear st; intro w st hS
   refine pm hS ?_
   refine pnk hS ?_
   refine pf0 hS underlying178 sizeOf9 ?_
   refine pld hS 0 isAgg9 ?_
   refine vp_take rfl rfl rfl hS (fun w st => y_lens rfl underlying9) ?_
   refine pm hS ?_
   refine pnk hS ?_
   refine pfz hS 1 underlying178 sizeOf3 ?_
   refine pld hS 0 isAgg3 ?_
   refine vp_take rfl rfl rfl hS (fun w st => y_sub rfl rfl rfl (by omega) (by omega)) ?_
   refine vp_take rfl rfl rfl hS (fun w st => y_as rfl) ?_
   refine vp_end ?_
   rotate_left
   intro hc53
   try simp only [dn] at hc53
   refine vc_code_skip ?_
   all_goals
    refine vq_then (vk2 0 2 (vc_region ?_))
    refine ym ?_
    refine ynk ?_
    refine yfz 1 underlying178 sizeOf3 ?_
    refine yl st 0 isAgg3 ?_
    refine ym ?_
    refine vy (y_add rfl rfl (by omega : _ = ((j + toLf (List.drop j s) : Nat) : Int)) (by omega) (by omega)) ?_
    refine ynk ?_
    refine yfz 1 underlying178 sizeOf3 ?_
    first
    | refine vc_e (est st 0 sizeOf3 ?_)
    intro w st; dsimp only [setNth, wr] at st
    refine vc_end (vq_block (vq_block ?_))
    refine vq_again (j + toLf (List.drop j s))  ⟨rfl, trivial⟩ st ?_ ?_
    ·exact ⟨by omega, by rw [skip_rem hc31, List.drop_drop] at he; omega⟩
    ·have := toLf_pos hc31; omega
  intro hc31
  try simp only [dn] at hc31
  refine vc_ret (vq_block_ret (vq_block_ret (vq_then_ret (vq_block_ret ?_))))
  refine vq_ret0 (.inl rfl) results197 ?_
  refine ⟨_, rfl, ?_⟩
  exact ⟨rfl, st.chg, by have h := st.res (i := 0) rfl; rw [hd] at hc31; rw [hd, skip_other hc13 hc31] at he; rw [show i + skip (List.drop i s) = j by omega]; exact h⟩
 intro hc12
 try simp only [dn] at hc12
 obtain rfl : j = s.length := by omega
 simp only [List.drop_length, skip_nil] at he
 refine vc_exit (vq_then_exit (vq_then_exit (vq_block_exit ?_)))
 refine vq_ret0 (.inr rfl) results197 ?_
 refine ⟨_, rfl, ?_⟩
 exact ⟨rfl, st.chg, by have h := st.res (i := 0) rfl; rw [show i + skip (List.drop i s) = s.length by omega]; exact h⟩
end Go.Proofs.YtnmhlpnapgojjaaGreatDoor


namespace Go.Proofs.YtnmhlpnapgojjaaGreatDoor
open Go.RowKit Sx LexS _root_.Go.Proofs.Tryz
abbrev tokL (t : Tok) : List Value := [.int .u8 (t.kind : Int), str t.text, .int .i64 (t.word : Int), .int .i64 (t.at_ : Int)]
abbrev zeroL : List Value := [.int .u8 0, str [], .int .i64 0, .int .i64 0]
/-- what a reader of tokens leaves -/
def RdPost (b : Nat) (s : List UInt8) (i : Nat) (fa fr : Int) (res : TokR) (v : Value) (w' : World) : Prop := match res with
 | .tok t => v = .agg (tokL t).toArray ∧ w'.heap[b]? = some (scn s ((i + t.text.length : Nat) : Int) fa fr)
 | .bad rule p => v = .agg zeroL.toArray ∧ ∃ j : Int, w'.heap[b]? = some (scn s j (p : Int) (rule : Int))
theorem tokAt_word {s : List UInt8} {i : Nat} (h : i < s.length) (hc : isLetter (s.getD i 0) = true) : tokAt (s.drop i) i =
    if isWord ((s.drop i).takeWhile isIdent) then .tok ⟨2, (s.drop i).takeWhile isIdent, 0, i⟩ else if 32 < ((s.drop i).takeWhile isIdent).length then .bad 2 (i + 32) else .tok ⟨1, (s.drop i).takeWhile isIdent, 0, i⟩ := by
 rw [drop_cons h]; simp only [tokAt, hc, if_true]
theorem tw_step {p : UInt8 → Bool} {s : List UInt8} {i j : Nat} (hij : i ≤ j) (hj : j < s.length) (hp : p (s.getD j 0) = true)
    (h : (s.drop i).takeWhile p = (s.drop i).take (j - i) ++ (s.drop j).takeWhile p) : (s.drop i).takeWhile p = (s.drop i).take (j + 1 - i) ++ (s.drop (j + 1)).takeWhile p := by
 rw [h, drop_cons hj, List.takeWhile_cons, if_pos hp, show j + 1 - i = (j - i) + 1 from by omega, List.take_succ_eq_append_getElem (by simp; omega)]
 simp [List.getD, hj, show i + (j - i) = j from by omega]
theorem tw_end {p : UInt8 → Bool} {s : List UInt8} {i j : Nat} (hp : j < s.length → p (s.getD j 0) = false)
    (h : (s.drop i).takeWhile p = (s.drop i).take (j - i) ++ (s.drop j).takeWhile p) : (s.drop i).takeWhile p = (s.drop i).take (j - i) := by
 by_cases hj : j < s.length
 ·rw [h, drop_cons hj, List.takeWhile_cons, hp hj]; simp
 ·have e : s.drop j = [] := List.drop_eq_nil_of_le (by omega)
  rw [h, e]; simp
theorem isIdent_of (c : UInt8) (h : isLetter c = true ∨ isDigit c = true) : isIdent c = true := by unfold isIdent; rcases h with h | h <;> simp [h]
theorem isIdent_no (c : UInt8) (h : isLetter c = false) (h' : isDigit c = false) : isIdent c = false := by unfold isIdent; simp [h, h']

theorem wrong_any (b : Nat) (s : List UInt8) (i fa fr at_ rule : Int) (w : World) (hb : w.heap[b]? = some (scn s i fa fr)) :
    Ret Tryz.prog 229 [.pointer (some ⟨b, 0, none⟩), .int .i64 at_, .int .i64 rule] w fun v w' => v = .agg zeroL.toArray ∧ Chg [b] w w' ∧ w'.heap[b]? = some (scn s i at_ rule) := by
 refine ret_of [_, _, _] func229 rfl ntmps229 rfl ?_
 have st := St.init w [b]
 replace st := St.of1 [b] hb
 refine sr ?_
 refine vc_e (e_al (l := [_, _, _, _]) st rfl rfl zeroValue118 rfl ?_)
 intro b6 w hb6 st
 refine et (vk4 0 1 2 6 (sr ?_))
 iterate 3 refine ym ?_
 refine vy (ybd (.agg #[_, _]) [(0, _), (1, _)]) ?_
 refine ynk ?_
 refine yfz 2 underlying178 sizeOf29 ?_
 refine vc_e (ests st 1 [_, _] sizeOf29 ?_)
 intro w st; dsimp only [setNth, wr] at st
 refine et (vk1 6 (sr ?_))
 refine vy (ybd (.agg #[_, _, _, _]) []) ?_
 refine vc_e (ests st 0 [_, _, _, _] sizeOf118 ?_)
 intro w st; dsimp only [setNth, wr] at st
 refine et (vk1 6 (vc_ret ?_))
 refine vq_ret1 st (.inl rfl) results229 (by exact .cell 0 rfl rfl isAgg118 sizeOf118) ?_
 refine ⟨_, rfl, ?_⟩
 exact ⟨rfl, st.chg, st.res (i := 1) rfl⟩
theorem word_rd (b : Nat) (s : List UInt8) (i : Nat) (fa fr : Int) (w : World) (hb : w.heap[b]? = some (scn s i fa fr)) (hi : i < s.length) (hs : s.length ≤ 3000000) (hc : isLetter (s.getD i 0) = true) :
    Ret Tryz.prog 199 [.pointer (some ⟨b, 0, none⟩)] w fun v w' => Chg [b] w w' ∧ RdPost b s i fa fr (tokAt (s.drop i) i) v w' := by
 refine ret_of [_] func199 rfl ntmps199 rfl ?_
 have st := St.init w [b]
 replace st := St.of1 [b] hb
 refine sr ?_
 refine vc_e (e_al (l := [_, _, _, _]) st rfl rfl zeroValue118 rfl ?_)
 intro b2 w hb2 st
 refine et (vk2 0 2 (sr ?_))
 refine ym ?_
 refine ynk ?_
 refine yfz 1 underlying178 sizeOf3 ?_
 refine yl st 1 isAgg3 ?_
 refine ya ?_
 refine et (vk3 0 2 3 (vc_seq (vc_block ?_)))
 refine vc_loop (w0 := _) (M := _) (fun _ => [(0, .pointer (some ⟨b, 0, none⟩)), (2, .pointer (some ⟨b2, 0, none⟩)), (3, .int .i64 (i : Int))]) (fun (j : Nat) => [.blk b2 (.cells zeroL.toArray 118 (0, 0)), .blk b (scn s j fa fr)]) (fun j _ => i ≤ j ∧ j ≤ s.length ∧ (s.drop i).takeWhile isIdent = (s.drop i).take (j - i) ++ (s.drop j).takeWhile isIdent) (fun j => s.length - j) i ⟨rfl, rfl, rfl, trivial⟩ st ⟨by omega, by omega, by simp⟩ ?_
 rintro j w ⟨hij, hj, he⟩ st
 refine vc_seq (vc_seq ?_)
 refine vdr0 Tryz.mixed [Yt 0, Yt 1, Yt 2, Yt 3, Yt 4, Yt 5, Yt 6, Yt 7, Yt 8, Yt 9, Yt 10, Yt 11, Yt 12, Yt 13, Yt 14, Yt 15, Yt 16, Yt 17, Yt 18, Yt 19, Nt 20, Yt 21, Yt 22, Yt 23, Yt 24, Yt 25, Yt 26, Yt 27, Yt 28, Yt 29, Yt 30, Nt 31, Yt 32, Yt 33] st ?_
 clear st; intro w st hS
 refine pm hS ?_
 refine pnk hS ?_
 refine pfz hS 1 underlying178 sizeOf3 ?_
 refine pld hS 1 isAgg3 ?_
 refine pm hS ?_
 refine pnk hS ?_
 refine pf0 hS underlying178 sizeOf9 ?_
 refine pld hS 1 isAgg9 ?_
 refine vp_take rfl rfl rfl hS (fun w st => y_lens rfl underlying9) ?_
 refine vp_take rfl rfl rfl hS (fun w st => y_lss rfl rfl) ?_
 refine vp_part rfl rfl rfl hS rfl ?_ ?_
 ·intro hg19
  try simp only [dn] at hg19
  refine pm hS ?_
  refine pnk hS ?_
  refine pf0 hS underlying178 sizeOf9 ?_
  refine pld hS 1 isAgg9 ?_
  refine pm hS ?_
  refine pnk hS ?_
  refine pfz hS 1 underlying178 sizeOf3 ?_
  refine pld hS 1 isAgg3 ?_
  refine vp_take rfl rfl rfl hS (fun w st => y_ixs (k := _) rfl rfl underlying9 rfl (by omega)) ?_
  refine vp_do rfl (e_call [_] rfl rfl call115 rfl (letter_any _ _) ?_)
  rintro _ _ ⟨rfl, rfl⟩
  refine vp_next (by exact st) ?_; intro hS
  refine vp_part rfl rfl rfl hS rfl ?_ ?_
  ·intro hg30
   try simp only [dn] at hg30
   iterate 9 refine vp_skip rfl rfl rfl hS ?_
   refine vp_do rfl (e_skip rfl rfl (vp_next hS (fun hS => ?_)))
   iterate 2 refine vp_take rfl rfl rfl hS (fun w st => y_pickt rfl rfl) ?_
   refine vp_end (vq_then (vk4 0 2 3 42 ?_))
   refine vc_ift rfl ?_
   refine kt (vk3 0 2 3 (vc_block (vc_region ?_)))
   refine ym ?_
   refine ynk ?_
   refine yfz 1 underlying178 sizeOf3 ?_
   refine yl st 1 isAgg3 ?_
   refine vy (y_add rfl rfl rfl (by omega) (by omega)) ?_
   refine ynk ?_
   refine yfz 1 underlying178 sizeOf3 ?_
   refine vc_e (est st 1 sizeOf3 ?_)
   intro w st; dsimp only [setNth, wr] at st
   refine vc_end (vq_block ?_)
   refine vq_again (j + 1)  ⟨rfl, rfl, rfl, trivial⟩ st ?_ ?_
   ·exact ⟨by omega, by omega, tw_step hij (by omega) (isIdent_of _ (by (left; assumption))) he⟩
   omega
  intro hg30
  try simp only [dn] at hg30
  refine pm hS ?_
  refine pnk hS ?_
  refine pf0 hS underlying178 sizeOf9 ?_
  refine pld hS 1 isAgg9 ?_
  refine pm hS ?_
  refine pnk hS ?_
  refine pfz hS 1 underlying178 sizeOf3 ?_
  refine pld hS 1 isAgg3 ?_
  refine vp_take rfl rfl rfl hS (fun w st => y_ixs (k := _) rfl rfl underlying9 rfl (by omega)) ?_
  refine vp_do rfl (e_call [_] rfl rfl call113 rfl (digit_any _ _) ?_)
  rintro _ _ ⟨rfl, rfl⟩
  refine vp_next (by exact st) ?_; intro hS
  refine vp_take rfl rfl rfl hS (fun w st => y_pickf rfl rfl) ?_
  refine vp_take rfl rfl rfl hS (fun w st => y_pickt rfl rfl) ?_
  refine vp_end (vq_then (vk4 0 2 3 42 ?_))
  refine vif ?_ ?_
  ·intro hc42
   try simp only [dn] at hc42
   refine kt (vk3 0 2 3 (vc_block (vc_region ?_)))
   refine ym ?_
   refine ynk ?_
   refine yfz 1 underlying178 sizeOf3 ?_
   refine yl st 1 isAgg3 ?_
   refine vy (y_add rfl rfl rfl (by omega) (by omega)) ?_
   refine ynk ?_
   refine yfz 1 underlying178 sizeOf3 ?_
   refine vc_e (est st 1 sizeOf3 ?_)
   intro w st; dsimp only [setNth, wr] at st
   refine vc_end (vq_block ?_)
   refine vq_again (j + 1)  ⟨rfl, rfl, rfl, trivial⟩ st ?_ ?_
   ·exact ⟨by omega, by omega, tw_step hij (by omega) (isIdent_of _ (by (right; assumption))) he⟩
   omega
  intro hc42
  try simp only [dn] at hc42
  have hT := tw_end (fun _ => isIdent_no _ (by assumption) (by assumption)) he
  refine vc_exit (vq_then_exit (vq_then_exit (vq_block_exit (vq_then (vk3 0 2 3 (vc_seq ?_))))))
  refine vdr Tryz.mixed [Yt 0, Yt 1, Yt 2, Yt 3, Yt 4, Yt 5, Yt 6, Yt 7, Yt 8, Yt 9, Yt 10, Yt 11, Nt 12, Nt 13] [.blk b (scn s j fa fr)] st ?_
  clear st; intro w st hS
  refine pm hS ?_
  refine pnk hS ?_
  refine pf0 hS underlying178 sizeOf9 ?_
  refine pld hS 0 isAgg9 ?_
  iterate 2 refine pm hS ?_
  refine pnk hS ?_
  refine pfz hS 1 underlying178 sizeOf3 ?_
  refine pld hS 0 isAgg3 ?_
  refine vp_take rfl rfl rfl hS (fun w st => y_sls (i := _) (j := _) rfl rfl rfl underlying9 rfl rfl (by omega) (by omega)) ?_
  refine pm hS ?_
  refine vp_take rfl rfl rfl hS (fun w st => ybd (.agg #[_, _, _, _]) [(0, _), (1, _), (3, _)]) ?_
  refine vp_do rfl (e_al (l := [_, _, _, _]) st rfl rfl zeroValue118 rfl ?_)
  intro b4 w hb4 st
  refine vp_next st.dr ?_; intro hS
  refine vp_do rfl (ests st 0 [_, _, _, _] sizeOf118 ?_)
  intro w st; dsimp only [setNth, wr] at st
  refine vp_next st.dr ?_; intro hS
  refine vp_end (vq_then (vk4 0 2 3 4 (vc_seq (sr ?_))))
  refine yfz 1 underlying118 sizeOf9 ?_
  refine yl st 0 isAgg9 ?_
  refine vc_e (e_call [_] rfl rfl call114 rfl (word_any _ _) ?_)
  rintro _ _ ⟨rfl, rfl⟩
  refine et (vk5 0 2 3 4 64 ?_)
  refine vif ?_ ?_
  intro hc64
  try simp only [dn] at hc64
  refine vc_region ?_
  refine vy (y_fa0 rfl underlying118 rfl rfl sizeOf116 rfl) ?_
  refine vc_e (est st 0 sizeOf116 ?_)
  intro w st; dsimp only [setNth, wr] at st
  refine et (vk2 2 4 (sr ?_))
  refine yla st 0 [_, _, _, _] isAgg118 sizeOf118 ?_
  refine vc_e (ests st 1 [_, _, _, _] sizeOf118 ?_)
  intro w st; dsimp only [setNth, wr] at st
  refine et (vk1 2 (vc_ret ?_))
  rotate_left
  focus
   intro hc64
   try simp only [dn] at hc64
   refine sr ?_
   refine yfz 1 underlying118 sizeOf9 ?_
   refine yl st 0 isAgg9 ?_
   refine vy (y_lens rfl underlying9) ?_
   refine vy (y_gtr rfl rfl) ?_
   refine et (vk5 0 2 3 4 69 ?_)
   refine vif ?_ ?_
   intro hc69
   try simp only [dn] at hc69
   refine sr ?_
   iterate 2 refine ym ?_
   refine vy (y_add rfl rfl rfl (by omega) (by omega)) ?_
   refine vc_e (e_call [_, _, _] rfl rfl call229 rfl (wrong_any b s _ _ _ _ _ _ (st.res (i := 2) rfl)) ?_)
   rintro _ w ⟨rfl, cw, hw⟩
   replace st := st.turn (i := 2) (r' := .blk b _) rfl rfl rfl cw (.inl (by simp)) hw
   dsimp only [setNth] at st
   refine vc_e (ests st 1 [_, _, _, _] sizeOf118 ?_)
   intro w st; dsimp only [setNth, wr] at st
   refine et (vk1 2 (vc_ret (vq_then_ret ?_)))
   rotate_left
   intro hc69
   try simp only [dn] at hc69
   refine kt (vk2 2 4 (sr ?_))
   refine yla st 0 [_, _, _, _] isAgg118 sizeOf118 ?_
   refine vc_e (ests st 1 [_, _, _, _] sizeOf118 ?_)
   intro w st; dsimp only [setNth, wr] at st
   refine et (vk1 2 (vc_ret ?_))
  all_goals
   refine vq_ret1 st (.inl rfl) results199 (by exact .cell 1 rfl rfl isAgg118 sizeOf118) ?_
   refine ⟨_, rfl, ?_⟩
   have hlen : (List.take (j - i) (List.drop i s)).length = j - i := by simp; omega
   refine ⟨st.chg, ?_⟩
   rw [tokAt_word hi hc, hT]
   first
   | (rw [if_pos hc64]; exact ⟨rfl, by dsimp only; rw [hlen, show i + (j - i) = j from by omega]; exact st.res (i := 2) rfl⟩)
   | (rw [if_neg (by rw [hc64]; simp), if_pos (by omega)]; exact ⟨rfl, _, st.res (i := 2) rfl⟩)
   | (rw [if_neg (by rw [hc64]; simp), if_neg (by omega)]; exact ⟨rfl, by dsimp only; rw [hlen, show i + (j - i) = j from by omega]; exact st.res (i := 2) rfl⟩)
 intro hg19
 try simp only [dn] at hg19
 have hT := tw_end (fun h => absurd h (by omega)) he
 iterate 9 refine vp_skip rfl rfl rfl hS ?_
 refine vp_do rfl (e_skip rfl rfl (vp_next hS (fun hS => ?_)))
 iterate 10 refine vp_skip rfl rfl rfl hS ?_
 refine vp_do rfl (e_skip rfl rfl (vp_next hS (fun hS => ?_)))
 refine vp_skip rfl rfl rfl hS ?_
 refine vp_take rfl rfl rfl hS (fun w st => y_pickf rfl rfl) ?_
 refine vp_end (vq_then (vk4 0 2 3 42 ?_))
 refine vc_iff rfl ?_
 refine vc_exit (vq_then_exit (vq_then_exit (vq_block_exit (vq_then (vk3 0 2 3 (vc_seq ?_))))))
 refine vdr Tryz.mixed [Yt 0, Yt 1, Yt 2, Yt 3, Yt 4, Yt 5, Yt 6, Yt 7, Yt 8, Yt 9, Yt 10, Yt 11, Nt 12, Nt 13] [.blk b (scn s j fa fr)] st ?_
 clear st; intro w st hS
 refine pm hS ?_
 refine pnk hS ?_
 refine pf0 hS underlying178 sizeOf9 ?_
 refine pld hS 0 isAgg9 ?_
 iterate 2 refine pm hS ?_
 refine pnk hS ?_
 refine pfz hS 1 underlying178 sizeOf3 ?_
 refine pld hS 0 isAgg3 ?_
 refine vp_take rfl rfl rfl hS (fun w st => y_sls (i := _) (j := _) rfl rfl rfl underlying9 rfl rfl (by omega) (by omega)) ?_
 refine pm hS ?_
 refine vp_take rfl rfl rfl hS (fun w st => ybd (.agg #[_, _, _, _]) [(0, _), (1, _), (3, _)]) ?_
 refine vp_do rfl (e_al (l := [_, _, _, _]) st rfl rfl zeroValue118 rfl ?_)
 intro b4 w hb4 st
 refine vp_next st.dr ?_; intro hS
 refine vp_do rfl (ests st 0 [_, _, _, _] sizeOf118 ?_)
 intro w st; dsimp only [setNth, wr] at st
 refine vp_next st.dr ?_; intro hS
 refine vp_end (vq_then (vk4 0 2 3 4 (vc_seq (sr ?_))))
 refine yfz 1 underlying118 sizeOf9 ?_
 refine yl st 0 isAgg9 ?_
 refine vc_e (e_call [_] rfl rfl call114 rfl (word_any _ _) ?_)
 rintro _ _ ⟨rfl, rfl⟩
 refine et (vk5 0 2 3 4 64 ?_)
 refine vif ?_ ?_
 intro hc64
 try simp only [dn] at hc64
 refine vc_region ?_
 refine vy (y_fa0 rfl underlying118 rfl rfl sizeOf116 rfl) ?_
 refine vc_e (est st 0 sizeOf116 ?_)
 intro w st; dsimp only [setNth, wr] at st
 refine et (vk2 2 4 (sr ?_))
 refine yla st 0 [_, _, _, _] isAgg118 sizeOf118 ?_
 refine vc_e (ests st 1 [_, _, _, _] sizeOf118 ?_)
 intro w st; dsimp only [setNth, wr] at st
 refine et (vk1 2 (vc_ret ?_))
 rotate_left
 focus
  intro hc64
  try simp only [dn] at hc64
  refine sr ?_
  refine yfz 1 underlying118 sizeOf9 ?_
  refine yl st 0 isAgg9 ?_
  refine vy (y_lens rfl underlying9) ?_
  refine vy (y_gtr rfl rfl) ?_
  refine et (vk5 0 2 3 4 69 ?_)
  refine vif ?_ ?_
  intro hc69
  try simp only [dn] at hc69
  refine sr ?_
  iterate 2 refine ym ?_
  refine vy (y_add rfl rfl rfl (by omega) (by omega)) ?_
  refine vc_e (e_call [_, _, _] rfl rfl call229 rfl (wrong_any b s _ _ _ _ _ _ (st.res (i := 2) rfl)) ?_)
  rintro _ w ⟨rfl, cw, hw⟩
  replace st := st.turn (i := 2) (r' := .blk b _) rfl rfl rfl cw (.inl (by simp)) hw
  dsimp only [setNth] at st
  refine vc_e (ests st 1 [_, _, _, _] sizeOf118 ?_)
  intro w st; dsimp only [setNth, wr] at st
  refine et (vk1 2 (vc_ret (vq_then_ret ?_)))
  rotate_left
  intro hc69
  try simp only [dn] at hc69
  refine kt (vk2 2 4 (sr ?_))
  refine yla st 0 [_, _, _, _] isAgg118 sizeOf118 ?_
  refine vc_e (ests st 1 [_, _, _, _] sizeOf118 ?_)
  intro w st; dsimp only [setNth, wr] at st
  refine et (vk1 2 (vc_ret ?_))
 all_goals
  refine vq_ret1 st (.inl rfl) results199 (by exact .cell 1 rfl rfl isAgg118 sizeOf118) ?_
  refine ⟨_, rfl, ?_⟩
  have hlen : (List.take (j - i) (List.drop i s)).length = j - i := by simp; omega
  refine ⟨st.chg, ?_⟩
  rw [tokAt_word hi hc, hT]
  first
  | (rw [if_pos hc64]; exact ⟨rfl, by dsimp only; rw [hlen, show i + (j - i) = j from by omega]; exact st.res (i := 2) rfl⟩)
  | (rw [if_neg (by rw [hc64]; simp), if_pos (by omega)]; exact ⟨rfl, _, st.res (i := 2) rfl⟩)
  | (rw [if_neg (by rw [hc64]; simp), if_neg (by omega)]; exact ⟨rfl, by dsimp only; rw [hlen, show i + (j - i) = j from by omega]; exact st.res (i := 2) rfl⟩)
end Go.Proofs.YtnmhlpnapgojjaaGreatDoor


namespace Go.Proofs.YtnmhlpnapgojjaaGreatDoor
open Go.RowKit Sx LexS _root_.Go.Proofs.Tryz
theorem contains1_any (c : UInt8) (w : World) : Ret Tryz.prog 244 [str signs1, str [c]] w fun v w' => v = .bool (signs1.contains c) ∧ w' = w :=
 (Tryz.strings_Contains_one ⟨signs1.toArray⟩ c w).mono fun e w' ⟨he, hw⟩ => ⟨_, he, by rw [contains_ib], hw⟩
theorem tokAt_sign {s : List UInt8} {i : Nat} (h : i < s.length) (hc : isLetter (s.getD i 0) = false) (hd : isDigit (s.getD i 0) = false) : tokAt (s.drop i) i =
    if isSign2 ((s.drop i).take 2) then .tok ⟨4, (s.drop i).take 2, 0, i⟩ else if isSign1 ((s.drop i).take 1) then .tok ⟨4, (s.drop i).take 1, 0, i⟩ else .bad 1 i := by
 rw [drop_cons h]; simp only [tokAt, hc, hd, Bool.false_eq_true, if_false, List.take_succ_cons, List.take_zero]; rfl
theorem isSign2_len {l : List UInt8} (h : isSign2 l = true) : l.length = 2 := by
 simp only [isSign2, decide_eq_true_eq] at h
 rcases h with h | h | h | h | h | h <;> simp [h]
theorem isSign1_len {l : List UInt8} (h : isSign1 l = true) : l.length = 1 := by
 match l, h with
 | [], h => simp [isSign1] at h
 | [_], _ => rfl
 | _ :: _ :: _, h => simp [isSign1] at h
set_option maxHeartbeats 1000000 in
theorem sign_any (l : List UInt8) (w : World) : Ret Tryz.prog 228 [str l] w fun v w' => v = .bool (isSign l) ∧ w' = w := by
 refine ret_of [_] func228 rfl ntmps228 rfl ?_
 have st := St.init w []
 refine sr ?_
 refine ya ?_
 refine et (vk1 0 (vc_seq (sr ?_)))
 refine ym ?_
 refine et (vk2 0 3 (vc_block (vc_seq (sr ?_))))
 refine vy (y_eqs rfl rfl) ?_
 refine ya ?_
 refine et (vk3 0 3 4 ?_)
 refine vif ?_ ?_
 intro hc4
 try simp only [dn] at hc4
 refine kt (vk2 0 4 ?_)
 refine vc_ift rfl ?_
 refine sr ?_
 refine ya ?_
 refine et (vk1 2 (vc_ret (vq_block_ret (vq_then_ret ?_))))
 rotate_left
 focus
  intro hc4
  try simp only [dn] at hc4
  refine sr ?_
  refine vy (y_eqs rfl rfl) ?_
  refine ya ?_
  refine et (vk3 0 3 4 ?_)
  refine vif ?_ ?_
  intro hc4
  try simp only [dn] at hc4
  refine kt (vk2 0 4 ?_)
  refine vc_ift rfl ?_
  refine sr ?_
  refine ya ?_
  refine et (vk1 2 (vc_ret (vq_block_ret (vq_then_ret ?_))))
  rotate_left
  focus
   intro hc4
   try simp only [dn] at hc4
   refine sr ?_
   refine vy (y_eqs rfl rfl) ?_
   refine ya ?_
   refine et (vk3 0 3 4 ?_)
   refine vif ?_ ?_
   intro hc4
   try simp only [dn] at hc4
   refine kt (vk2 0 4 ?_)
   refine vc_ift rfl ?_
   refine sr ?_
   refine ya ?_
   refine et (vk1 2 (vc_ret (vq_block_ret (vq_then_ret ?_))))
   rotate_left
   focus
    intro hc4
    try simp only [dn] at hc4
    refine sr ?_
    refine vy (y_eqs rfl rfl) ?_
    refine ya ?_
    refine et (vk3 0 3 4 ?_)
    refine vif ?_ ?_
    intro hc4
    try simp only [dn] at hc4
    refine kt (vk2 0 4 ?_)
    refine vc_ift rfl ?_
    refine sr ?_
    refine ya ?_
    refine et (vk1 2 (vc_ret (vq_block_ret (vq_then_ret ?_))))
    rotate_left
    focus
     intro hc4
     try simp only [dn] at hc4
     refine sr ?_
     refine vy (y_eqs rfl rfl) ?_
     refine ya ?_
     refine et (vk3 0 3 4 ?_)
     refine vif ?_ ?_
     intro hc4
     try simp only [dn] at hc4
     refine kt (vk2 0 4 ?_)
     refine vc_ift rfl ?_
     refine sr ?_
     refine ya ?_
     refine et (vk1 2 (vc_ret (vq_block_ret (vq_then_ret ?_))))
     rotate_left
     focus
      intro hc4
      try simp only [dn] at hc4
      refine vc_region ?_
      refine vy (y_eqs rfl rfl) ?_
      refine ya ?_
      refine et (vk2 0 4 ?_)
      refine vif ?_ ?_
      intro hc4
      try simp only [dn] at hc4
      refine sr ?_
      refine ya ?_
      refine et (vk1 2 (vc_ret (vq_block_ret (vq_then_ret ?_))))
      rotate_left
      focus
       intro hc4
       try simp only [dn] at hc4
       refine vc_code_skip (vq_block (vq_then (vk1 0 (sr ?_))))
       refine ym ?_
       refine vy (y_lens rfl underlying9) ?_
       refine vy (y_eqi rfl rfl) ?_
       refine vmb ?_ ?_
       intro hg14
       try simp only [dn] at hg14
       obtain ⟨c, rfl⟩ : ∃ c, l = [c] := by
        match l, hg14 with
        | [c], _ => exact ⟨c, rfl⟩
        | [], h => simp at h
        | _ :: _ :: _, h => simp at h; omega
       refine ym ?_
       refine vc_e (e_call [_, _] rfl rfl call244 rfl (contains1_any _ _) ?_)
       rintro _ _ ⟨rfl, rfl⟩
       refine ypt ?_
       rotate_left
       intro hg14
       try simp only [dn] at hg14
       iterate 2 refine vsk ?_
       refine ypf ?_
       all_goals
        refine ya ?_
        refine et (vk1 2 (vc_ret ?_))
 all_goals
  refine vr1 st results228 ?_
  refine ⟨?_, rfl⟩
  rw [Value.bool.injEq]
  first
  | (symm; simp only [isSign, isSign2, Bool.or_eq_true, decide_eq_true_eq]; simp only [*, true_or, or_true]; done)
  | (have h2 : isSign2 [c] = false := by simp [isSign2]
     simp [isSign, h2, isSign1]; done)
  | (have h2 : isSign2 l = false := by simp only [isSign2, decide_eq_false_iff_not]; simp only [*, or_self, not_false_eq_true]
     have h1 : isSign1 l = false := by
       cases h : isSign1 l
       · rfl
       · have := isSign1_len h; omega
     simp [isSign, h1, h2])
theorem sign_rd (b : Nat) (s : List UInt8) (i : Nat) (fa fr : Int) (w : World) (hb : w.heap[b]? = some (scn s i fa fr)) (hi : i < s.length) (hs : s.length ≤ 3000000) (hc : isLetter (s.getD i 0) = false) (hd : isDigit (s.getD i 0) = false) :
    Ret Tryz.prog 198 [.pointer (some ⟨b, 0, none⟩)] w fun v w' => Chg [b] w w' ∧ RdPost b s i fa fr (tokAt (s.drop i) i) v w' := by
 refine ret_of [_] func198 rfl ntmps198 rfl ?_
 have st := St.init w [b]
 replace st := St.of1 [b] hb
 refine sr ?_
 refine vc_e (e_al (l := [_, _, _, _]) st rfl rfl zeroValue118 rfl ?_)
 intro b2 w hb2 st
 refine et (vk2 0 2 (vc_seq (sr ?_)))
 refine ya ?_
 refine et (vk3 0 2 3 (vc_block ?_))
 refine vc_loop (w0 := _) (M := _) (fun (m : Nat) => [(0, .pointer (some ⟨b, 0, none⟩)), (2, .pointer (some ⟨b2, 0, none⟩)), (3, .int .i64 (m : Int))]) (fun (_ : Nat) => [.blk b2 (.cells zeroL.toArray 118 (0, 0)), .blk b (scn s i fa fr)]) (fun m _ => m ≤ 2 ∧ (m < 2 → isSign2 ((s.drop i).take 2) = false) ∧ (m < 1 → isSign1 ((s.drop i).take 1) = false)) (fun m => m) 2 ⟨rfl, rfl, rfl, trivial⟩ st ⟨by omega, by omega, by omega⟩ ?_
 rintro m w ⟨hm, h2, h1⟩ st
 refine vc_seq (sr ?_)
 refine ym ?_
 refine vy (y_gtr rfl rfl) ?_
 refine et (vk4 0 2 3 5 ?_)
 refine vif ?_ ?_
 ·intro hc5
  try simp only [dn] at hc5
  refine kt (vk3 0 2 3 (vc_seq (vc_block (vc_seq ?_))))
  refine vdr0 Tryz.mixed [Yt 0, Yt 1, Yt 2, Yt 3, Yt 4, Yt 5, Yt 6, Yt 7, Yt 8, Yt 9, Yt 10, Yt 11, Yt 12, Yt 13, Yt 14, Yt 15, Yt 16, Yt 17, Yt 18, Yt 19, Yt 20, Yt 21, Yt 22, Yt 23, Yt 24, Yt 25, Yt 26, Yt 27, Nt 28, Yt 29] st ?_
  clear st; intro w st hS
  refine pm hS ?_
  refine pnk hS ?_
  refine pfz hS 1 underlying178 sizeOf3 ?_
  refine pld hS 1 isAgg3 ?_
  refine pm hS ?_
  refine vp_take rfl rfl rfl hS (fun w st => y_add rfl rfl rfl (by omega) (by omega)) ?_
  refine pm hS ?_
  refine pnk hS ?_
  refine pf0 hS underlying178 sizeOf9 ?_
  refine pld hS 1 isAgg9 ?_
  refine vp_take rfl rfl rfl hS (fun w st => y_lens rfl underlying9) ?_
  refine vp_take rfl rfl rfl hS (fun w st => y_leq rfl rfl) ?_
  refine vp_part rfl rfl rfl hS rfl ?_ ?_
  ·intro hg20
   try simp only [dn] at hg20
   refine pm hS ?_
   refine pnk hS ?_
   refine pf0 hS underlying178 sizeOf9 ?_
   refine pld hS 1 isAgg9 ?_
   refine pm hS ?_
   refine pnk hS ?_
   refine pfz hS 1 underlying178 sizeOf3 ?_
   refine pld hS 1 isAgg3 ?_
   refine pm hS ?_
   refine pnk hS ?_
   refine pfz hS 1 underlying178 sizeOf3 ?_
   refine pld hS 1 isAgg3 ?_
   refine pm hS ?_
   refine vp_take rfl rfl rfl hS (fun w st => y_add rfl rfl rfl (by omega) (by omega)) ?_
   refine vp_take rfl rfl rfl hS (fun w st => y_sls (i := _) (j := (i + m)) rfl rfl rfl underlying9 rfl rfl (by omega) (by omega)) ?_
   refine vp_do rfl (e_call [_] rfl rfl call228 rfl (sign_any _ _) ?_)
   rintro _ _ ⟨rfl, rfl⟩
   refine vp_next (by exact st) ?_; intro hS
   refine vp_take rfl rfl rfl hS (fun w st => y_pickt rfl rfl) ?_
   refine vp_end (vq_then (vk4 0 2 3 37 ?_))
   refine vif ?_ ?_
   ·intro hc37
    try simp only [dn] at hc37
    refine sr ?_
    refine ym ?_
    refine ynk ?_
    refine yfz 1 underlying178 sizeOf3 ?_
    refine yl st 1 isAgg3 ?_
    refine ym ?_
    refine vy (y_add rfl rfl rfl (by omega) (by omega)) ?_
    refine ynk ?_
    refine yfz 1 underlying178 sizeOf3 ?_
    refine vc_e (est st 1 sizeOf3 ?_)
    intro w st; dsimp only [setNth, wr] at st
    refine et (vk3 0 2 3 (vc_seq ?_))
    refine vdr Tryz.mixed [Yt 0, Yt 1, Yt 2, Yt 3, Yt 4, Yt 5, Yt 6, Yt 7, Yt 8, Yt 9, Yt 10, Yt 11, Yt 12, Yt 13, Yt 14, Yt 15, Yt 16, Yt 17, Yt 18, Yt 19, Yt 20, Yt 21, Nt 22] [.blk b (scn s ((i : Int) + m) fa fr)] st ?_
    clear st; intro w st hS
    refine pm hS ?_
    refine pnk hS ?_
    refine pf0 hS underlying178 sizeOf9 ?_
    refine pld hS 0 isAgg9 ?_
    refine pm hS ?_
    refine pnk hS ?_
    refine pfz hS 1 underlying178 sizeOf3 ?_
    refine pld hS 0 isAgg3 ?_
    refine pm hS ?_
    refine vp_take rfl rfl rfl hS (fun w st => y_sub rfl rfl (by omega : _ = (i : Int)) (by omega) (by omega)) ?_
    refine pm hS ?_
    refine pnk hS ?_
    refine pfz hS 1 underlying178 sizeOf3 ?_
    refine pld hS 0 isAgg3 ?_
    refine vp_take rfl rfl rfl hS (fun w st => y_sls (i := i) (j := (i + m)) rfl rfl rfl underlying9 rfl rfl (by omega) (by omega)) ?_
    refine pm hS ?_
    refine pnk hS ?_
    refine pfz hS 1 underlying178 sizeOf3 ?_
    refine pld hS 0 isAgg3 ?_
    refine pm hS ?_
    refine vp_take rfl rfl rfl hS (fun w st => y_sub rfl rfl (by omega : _ = (i : Int)) (by omega) (by omega)) ?_
    refine vp_take rfl rfl rfl hS (fun w st => ybd (.agg #[_, _, _, _]) [(0, _), (1, _), (3, _)]) ?_
    refine vp_do rfl (ests st 0 [_, _, _, _] sizeOf118 ?_)
    intro w st; dsimp only [setNth, wr] at st
    refine vp_next st.dr ?_; intro hS
    refine vp_end (vq_then (vk1 2 (vc_ret (vq_block_ret (vq_then_ret (vq_then_ret (vq_block_ret (vq_then_ret ?_))))))))
    refine vq_ret1 st (.inl rfl) results198 (by exact .cell 0 rfl rfl isAgg118 sizeOf118) ?_
    refine ⟨_, rfl, ?_⟩
    refine ⟨st.chg, ?_⟩
    rw [tokAt_sign hi hc hd]
    rw [show i + m - i = m by omega] at hc37
    have hr := st.res (i := 1) rfl
    rcases (show m = 2 ∨ m = 1 by omega) with rfl | rfl
    ·have h2' : isSign2 ((s.drop i).take 2) = true := by
      simp only [isSign, Bool.or_eq_true] at hc37
      rcases hc37 with h | h
      ·exact h
      ·have := isSign1_len h; simp at this; omega
     rw [if_pos h2']
     exact ⟨by rfl, by dsimp only; rw [isSign2_len h2']; exact hr⟩
    ·have h1' : isSign1 ((s.drop i).take 1) = true := by
      simp only [isSign, Bool.or_eq_true] at hc37
      rcases hc37 with h | h
      ·have := isSign2_len h; simp at this; omega
      ·exact h
     rw [if_neg (by rw [h2 (by omega)]; simp), if_pos h1']
     exact ⟨by rfl, by dsimp only; rw [isSign1_len h1']; exact hr⟩
   intro hc37
   try simp only [dn] at hc37
   refine vc_code_skip (vq_block (vq_then (vk3 0 2 3 (vc_region ?_))))
   refine ym ?_
   refine vy (y_sub rfl rfl (by omega : _ = ((m - 1 : Nat) : Int)) (by omega) (by omega)) ?_
   refine ya ?_
   refine vc_end ?_
   refine vq_again (m - 1)  ⟨rfl, rfl, rfl, trivial⟩ st ?_ ?_
   ·first
    | (exact ⟨by omega, fun _ => by
        rcases (show m = 2 ∨ m = 1 by omega) with rfl | rfl
        · simp only [isSign, Bool.or_eq_false_iff, show i + 2 - i = 2 by omega] at hc37; exact hc37.1
        · exact h2 (by omega), fun hlt => by
        obtain rfl : m = 1 := by omega
        simp only [isSign, Bool.or_eq_false_iff, show i + 1 - i = 1 by omega] at hc37; exact hc37.2⟩)
   omega
  intro hg20
  try simp only [dn] at hg20
  iterate 15 refine vp_skip rfl rfl rfl hS ?_
  refine vp_do rfl (e_skip rfl rfl (vp_next hS (fun hS => ?_)))
  refine vp_take rfl rfl rfl hS (fun w st => y_pickf rfl rfl) ?_
  refine vp_end (vq_then (vk4 0 2 3 37 ?_))
  refine vc_iff rfl ?_
  refine vc_code_skip (vq_block (vq_then (vk3 0 2 3 (vc_region ?_))))
  refine ym ?_
  refine vy (y_sub rfl rfl (by omega : _ = ((m - 1 : Nat) : Int)) (by omega) (by omega)) ?_
  refine ya ?_
  refine vc_end ?_
  refine vq_again (m - 1)  ⟨rfl, rfl, rfl, trivial⟩ st ?_ ?_
  ·first
   | (exact ⟨by omega, fun _ => by
       rcases (show m = 2 ∨ m = 1 by omega) with rfl | rfl
       · cases h : isSign2 ((s.drop i).take 2)
         · rfl
         · have hl := isSign2_len h; simp at hl; omega
       · exact h2 (by omega), fun hlt => by
       obtain rfl : m = 1 := by omega
       omega⟩)
  omega
 intro hc5
 try simp only [dn] at hc5
 refine vc_exit (vq_then_exit (vq_then_exit (vq_block_exit (vq_then (vk2 0 2 (sr ?_))))))
 iterate 2 refine ym ?_
 refine ynk ?_
 refine yfz 1 underlying178 sizeOf3 ?_
 refine yl st 1 isAgg3 ?_
 refine vc_e (e_call [_, _, _] rfl rfl call229 rfl (wrong_any b s _ _ _ _ _ _ (st.res (i := 1) rfl)) ?_)
 rintro _ w ⟨rfl, cw, hw⟩
 replace st := st.turn (i := 1) (r' := .blk b _) rfl rfl rfl cw (.inl (by simp)) hw
 dsimp only [setNth] at st
 refine vc_e (ests st 0 [_, _, _, _] sizeOf118 ?_)
 intro w st; dsimp only [setNth, wr] at st
 refine et (vk1 2 (vc_ret ?_))
 refine vq_ret1 st (.inl rfl) results198 (by exact .cell 0 rfl rfl isAgg118 sizeOf118) ?_
 refine ⟨_, rfl, ?_⟩
 refine ⟨st.chg, ?_⟩
 rw [tokAt_sign hi hc hd, if_neg (by rw [h2 (by omega)]; simp), if_neg (by rw [h1 (by omega)]; simp)]
 exact ⟨rfl, _, st.res (i := 1) rfl⟩
end Go.Proofs.YtnmhlpnapgojjaaGreatDoor


namespace Go.Proofs.YtnmhlpnapgojjaaGreatDoor
open Go.RowKit Sx LexS _root_.Go.Proofs.Tryz
theorem digit_iff {c : UInt8} (h : isDigit c = true) : 48 ≤ c.toNat ∧ c.toNat ≤ 57 := by simpa [isDigit] using h
theorem tokAt_num {s : List UInt8} {i : Nat} (h : i < s.length) (hc : isLetter (s.getD i 0) = false) (hd : isDigit (s.getD i 0) = true) : tokAt (s.drop i) i =
    if (1 < ((s.drop i).takeWhile isDigit).length ∧ s.getD i 0 = 48) ∨ 9223372036854775807 < numVal ((s.drop i).takeWhile isDigit) then .bad 3 i
  else if i + ((s.drop i).takeWhile isDigit).length < s.length ∧ isLetter (s.getD (i + ((s.drop i).takeWhile isDigit).length) 0) = true then .bad 4 (i + ((s.drop i).takeWhile isDigit).length)
  else .tok ⟨3, (s.drop i).takeWhile isDigit, numVal ((s.drop i).takeWhile isDigit), i⟩ := by
 have e : tokAt (s.drop i) i = if (1 < ((s.drop i).takeWhile isDigit).length ∧ s.getD i 0 = 48) ∨ 9223372036854775807 < numVal ((s.drop i).takeWhile isDigit) then .bad 3 i
     else match (s.drop i).drop ((s.drop i).takeWhile isDigit).length with
    | d :: _ => if isLetter d then .bad 4 (i + ((s.drop i).takeWhile isDigit).length) else .tok ⟨3, (s.drop i).takeWhile isDigit, numVal ((s.drop i).takeWhile isDigit), i⟩
    | [] => .tok ⟨3, (s.drop i).takeWhile isDigit, numVal ((s.drop i).takeWhile isDigit), i⟩ := by
  rw [drop_cons h]; simp only [tokAt, hc, hd, Bool.false_eq_true, if_false, if_true]; rfl
 rw [e]
 generalize (s.drop i).takeWhile isDigit = T
 split
 ·rfl
 ·rw [List.drop_drop]
  by_cases hl : i + T.length < s.length
  ·rw [drop_cons hl]; simp only [hl, true_and]
  ·rw [List.drop_eq_nil_of_le (by omega), if_neg (by omega)]
theorem u8_eq48 {c : UInt8} (h : (c.toNat : Int) = 48) : c = 48 := by
 apply UInt8.toNat_inj.1; simp; omega
theorem num_step {s : List UInt8} {i j : Nat} (hij : i ≤ j) (hj : j < s.length) : numVal ((s.drop i).take (j + 1 - i)) = 10 * numVal ((s.drop i).take (j - i)) + ((s.getD j 0).toNat - 48) := by
 rw [← numVal_snoc, show j + 1 - i = (j - i) + 1 from by omega, List.take_succ_eq_append_getElem (by simp; omega)]
 simp [List.getD, hj, show i + (j - i) = j from by omega]
set_option maxHeartbeats 1000000 in
theorem number_rd (b : Nat) (s : List UInt8) (i : Nat) (fa fr : Int) (w : World) (hb : w.heap[b]? = some (scn s i fa fr)) (hi : i < s.length) (hs : s.length ≤ 3000000) (hc : isLetter (s.getD i 0) = false) (hd : isDigit (s.getD i 0) = true) :
    Ret Tryz.prog 200 [.pointer (some ⟨b, 0, none⟩)] w fun v w' => Chg [b] w w' ∧ RdPost b s i fa fr (tokAt (s.drop i) i) v w' := by
 refine ret_of [_] func200 rfl ntmps200 rfl ?_
 have st := St.init w [b]
 replace st := St.of1 [b] hb
 refine sr ?_
 refine vc_e (e_al (l := [_, _, _, _]) st rfl rfl zeroValue118 rfl ?_)
 intro b2 w hb2 st
 refine et (vk2 0 2 (sr ?_))
 refine ym ?_
 refine ynk ?_
 refine yfz 1 underlying178 sizeOf3 ?_
 refine yl st 1 isAgg3 ?_
 refine ya ?_
 refine et (vk3 0 2 3 (sr ?_))
 refine ya ?_
 refine et (vk4 0 2 3 4 (sr ?_))
 refine ya ?_
 refine et (vk5 0 2 3 4 5 (vc_seq (vc_block ?_)))
 refine vc_loop (w0 := _) (M := _) (fun (x : Nat × Nat × Bool) => [(0, .pointer (some ⟨b, 0, none⟩)), (2, .pointer (some ⟨b2, 0, none⟩)), (3, .int .i64 (i : Int)), (4, .int .u64 (x.2.1 : Int)), (5, .bool x.2.2)]) (fun x => [.blk b2 (.cells zeroL.toArray 118 (0, 0)), .blk b (scn s x.1 fa fr)]) (fun x _ => i ≤ x.1 ∧ x.1 ≤ s.length ∧ (s.drop i).takeWhile isDigit = (s.drop i).take (x.1 - i) ++ (s.drop x.1).takeWhile isDigit ∧ x.2.1 < 18446744073709551616 ∧ x.2.2 = decide (9223372036854775807 < numVal ((s.drop i).take (x.1 - i))) ∧ (x.2.2 = false → x.2.1 = numVal ((s.drop i).take (x.1 - i)))) (fun x => s.length - x.1) (i, 0, false) ⟨rfl, rfl, rfl, rfl, rfl, trivial⟩ st ⟨by simp, by simp; omega, by simp, by simp, by simp [numVal], by simp [numVal]⟩ ?_
 rintro ⟨j, n, gr⟩ w ⟨hij, hj, he, hn64, hgr, hn⟩ st
 dsimp only at *
 refine vc_seq (vc_seq ?_)
 refine vdr0 Tryz.mixed [Yt 0, Yt 1, Yt 2, Yt 3, Yt 4, Yt 5, Yt 6, Yt 7, Yt 8, Yt 9, Yt 10, Yt 11, Yt 12, Yt 13, Yt 14, Yt 15, Yt 16, Yt 17, Yt 18, Yt 19, Nt 20, Yt 21] st ?_
 clear st; intro w st hS
 refine pm hS ?_
 refine pnk hS ?_
 refine pfz hS 1 underlying178 sizeOf3 ?_
 refine pld hS 1 isAgg3 ?_
 refine pm hS ?_
 refine pnk hS ?_
 refine pf0 hS underlying178 sizeOf9 ?_
 refine pld hS 1 isAgg9 ?_
 refine vp_take rfl rfl rfl hS (fun w st => y_lens rfl underlying9) ?_
 refine vp_take rfl rfl rfl hS (fun w st => y_lss rfl rfl) ?_
 refine vp_part rfl rfl rfl hS rfl ?_ ?_
 ·intro hg21
  try simp only [dn] at hg21
  refine pm hS ?_
  refine pnk hS ?_
  refine pf0 hS underlying178 sizeOf9 ?_
  refine pld hS 1 isAgg9 ?_
  refine pm hS ?_
  refine pnk hS ?_
  refine pfz hS 1 underlying178 sizeOf3 ?_
  refine pld hS 1 isAgg3 ?_
  refine vp_take rfl rfl rfl hS (fun w st => y_ixs (k := _) rfl rfl underlying9 rfl (by omega)) ?_
  refine vp_do rfl (e_call [_] rfl rfl call113 rfl (digit_any _ _) ?_)
  rintro _ _ ⟨rfl, rfl⟩
  refine vp_next (by exact st) ?_; intro hS
  refine vp_take rfl rfl rfl hS (fun w st => y_pickt rfl rfl) ?_
  refine vp_end (vq_then (vk6 0 2 3 4 5 32 ?_))
  refine vif ?_ ?_
  ·intro hc32
   try simp only [dn] at hc32
   have hdg := digit_iff hc32
   refine kt (vk5 0 2 3 4 5 (vc_block (vc_seq ?_)))
   refine vdr0 Tryz.mixed [Yt 0, Yt 1, Yt 2, Yt 3, Yt 4, Yt 5, Yt 6, Yt 7, Yt 8, Yt 9, Yt 10, Yt 11] st ?_
   clear st; intro w st hS
   refine pm hS ?_
   refine pnk hS ?_
   refine pf0 hS underlying178 sizeOf9 ?_
   refine pld hS 1 isAgg9 ?_
   refine pm hS ?_
   refine pnk hS ?_
   refine pfz hS 1 underlying178 sizeOf3 ?_
   refine pld hS 1 isAgg3 ?_
   refine vp_take rfl rfl rfl hS (fun w st => y_ixs (k := _) rfl rfl underlying9 rfl (by omega)) ?_
   refine vp_take rfl rfl rfl hS (fun w st => y_subk rfl rfl (by rw [wrap_u8]; omega : _ = (((s.getD j 0).toNat - 48 : Nat) : Int))) ?_
   refine vp_take rfl rfl rfl hS (fun w st => y_cvi rfl underlying182 underlying5 (by rw [wrap_u64]; omega : _ = (((s.getD j 0).toNat - 48 : Nat) : Int))) ?_
   refine vp_take rfl rfl rfl hS (fun w st => y_as rfl) ?_
   refine vp_end (vq_then (vk6 0 2 3 4 5 6 (sr ?_)))
   refine ym ?_
   refine vmb ?_ ?_
   ·intro hg45
    try simp only [dn] at hg45
    iterate 5 refine vsk ?_
    refine ypt ?_
    refine ya ?_
    refine et (vk6 0 2 3 4 5 6 (sr ?_))
    refine ym ?_
    refine vy (y_mulk rfl rfl (by rw [wrap_u64]; omega : _ = ((n * 10 % 18446744073709551616 : Nat) : Int))) ?_
    refine ym ?_
    refine vy (y_addk rfl rfl (by rw [wrap_u64]; omega : _ = (((n * 10 % 18446744073709551616 + ((s.getD j 0).toNat - 48)) % 18446744073709551616 : Nat) : Int))) ?_
    refine ya ?_
    refine et (vk5 0 2 3 4 5 (vc_region ?_))
    refine ym ?_
    refine ynk ?_
    refine yfz 1 underlying178 sizeOf3 ?_
    refine yl st 1 isAgg3 ?_
    refine vy (y_add rfl rfl rfl (by omega) (by omega)) ?_
    refine ynk ?_
    refine yfz 1 underlying178 sizeOf3 ?_
    refine vc_e (est st 1 sizeOf3 ?_)
    intro w st; dsimp only [setNth, wr] at st
    refine vc_end (vq_block ?_)
    refine vq_again (j + 1, (n * 10 % 18446744073709551616 + ((s.getD j 0).toNat - 48)) % 18446744073709551616, true)  ⟨rfl, rfl, rfl, rfl, rfl, trivial⟩ st ?_ ?_
    ·refine ⟨by omega, by omega, tw_step hij (by omega) (by assumption) he, Nat.mod_lt _ (by decide), ?_, ?_⟩
     all_goals (dsimp only; have hns := num_step hij (show j < s.length by omega))
     ·rw [hns]
      (symm; rw [decide_eq_true_eq]; subst hg45; have hh := hgr.symm; rw [decide_eq_true_eq] at hh; omega)
     ·intro hf
      (cases hf; done)
    dsimp only; omega
   intro hg45
   try simp only [dn] at hg45
   iterate 2 refine ym ?_
   refine vy (y_subk rfl rfl (by rw [wrap_u64]; omega : _ = ((9223372036854775807 - ((s.getD j 0).toNat - 48) : Nat) : Int))) ?_
   refine vy (y_quok rfl rfl (by omega) (by omega) (by rw [wrap_u64]; omega : _ = (((9223372036854775807 - ((s.getD j 0).toNat - 48)) / 10 : Nat) : Int))) ?_
   refine vy (y_gtr rfl rfl) ?_
   refine ypf ?_
   refine ya ?_
   refine et (vk6 0 2 3 4 5 6 (sr ?_))
   refine ym ?_
   refine vy (y_mulk rfl rfl (by rw [wrap_u64]; omega : _ = ((n * 10 % 18446744073709551616 : Nat) : Int))) ?_
   refine ym ?_
   refine vy (y_addk rfl rfl (by rw [wrap_u64]; omega : _ = (((n * 10 % 18446744073709551616 + ((s.getD j 0).toNat - 48)) % 18446744073709551616 : Nat) : Int))) ?_
   refine ya ?_
   refine et (vk5 0 2 3 4 5 (vc_region ?_))
   refine ym ?_
   refine ynk ?_
   refine yfz 1 underlying178 sizeOf3 ?_
   refine yl st 1 isAgg3 ?_
   refine vy (y_add rfl rfl rfl (by omega) (by omega)) ?_
   refine ynk ?_
   refine yfz 1 underlying178 sizeOf3 ?_
   refine vc_e (est st 1 sizeOf3 ?_)
   intro w st; dsimp only [setNth, wr] at st
   refine vc_end (vq_block ?_)
   refine vq_again (j + 1, (n * 10 % 18446744073709551616 + ((s.getD j 0).toNat - 48)) % 18446744073709551616, decide ((((9223372036854775807 - ((s.getD j 0).toNat - 48)) / 10 : Nat) : Int) < (n : Int)))  ⟨rfl, rfl, rfl, rfl, rfl, trivial⟩ st ?_ ?_
   ·refine ⟨by omega, by omega, tw_step hij (by omega) (by assumption) he, Nat.mod_lt _ (by decide), ?_, ?_⟩
    all_goals (dsimp only; have hns := num_step hij (show j < s.length by omega))
    ·rw [hns]
     first
     | (have hz : n = numVal ((s.drop i).take (j - i)) := hn hg45
        rw [Bool.eq_iff_iff, decide_eq_true_eq, decide_eq_true_eq, ← hz]; omega)
    ·intro hf
     first
     | (have hz : n = numVal ((s.drop i).take (j - i)) := hn hg45
        rw [decide_eq_false_iff_not] at hf
        rw [hns, ← hz]; omega)
   dsimp only; omega
  intro hc32
  try simp only [dn] at hc32
  have hT := tw_end (fun _ => by assumption) he
  refine vc_exit (vq_then_exit (vq_then_exit (vq_block_exit (vq_then (vk5 0 2 3 4 5 (vc_seq (vc_block (sr ?_))))))))
  refine ym ?_
  refine ynk ?_
  refine yfz 1 underlying178 sizeOf3 ?_
  refine yl st 1 isAgg3 ?_
  refine ym ?_
  refine vy (y_add rfl rfl rfl (by omega) (by omega)) ?_
  refine vy (y_gtr rfl rfl) ?_
  refine vmb ?_ ?_
  focus
   intro hg71
   try simp only [dn] at hg71
   refine ym ?_
   refine ynk ?_
   refine vy (y_fa0 rfl underlying178 rfl rfl sizeOf9 rfl) ?_
   refine yl st 1 isAgg9 ?_
   refine ym ?_
   refine vy (y_ixs (k := _) rfl rfl underlying9 rfl (by omega)) ?_
   refine vy (y_eqi rfl rfl) ?_
   refine ypt ?_
   refine vmb ?_ ?_
   intro hg80
   try simp only [dn] at hg80
   refine vsk ?_
   refine ypt ?_
   refine ya ?_
   refine et (vk5 0 2 3 4 63 ?_)
   refine vc_ift rfl ?_
   refine sr ?_
   iterate 2 refine ym ?_
   refine vc_e (e_call [_, _, _] rfl rfl call229 rfl (wrong_any b s _ _ _ _ _ _ (st.res (i := 1) rfl)) ?_)
   rintro _ w ⟨rfl, cw, hw⟩
   replace st := st.turn (i := 1) (r' := .blk b _) rfl rfl rfl cw (.inl (by simp)) hw
   dsimp only [setNth] at st
   refine vc_e (ests st 0 [_, _, _, _] sizeOf118 ?_)
   intro w st; dsimp only [setNth, wr] at st
   refine et (vk1 2 (vc_ret (vq_block_ret (vq_then_ret ?_))))
   rotate_left
   focus
    intro hg80
    try simp only [dn] at hg80
    refine ym ?_
    refine ypf ?_
    refine ya ?_
    refine et (vk5 0 2 3 4 63 ?_)
    refine vif ?_ ?_
    intro hc63
    try simp only [dn] at hc63
    refine sr ?_
    iterate 2 refine ym ?_
    refine vc_e (e_call [_, _, _] rfl rfl call229 rfl (wrong_any b s _ _ _ _ _ _ (st.res (i := 1) rfl)) ?_)
    rintro _ w ⟨rfl, cw, hw⟩
    replace st := st.turn (i := 1) (r' := .blk b _) rfl rfl rfl cw (.inl (by simp)) hw
    dsimp only [setNth] at st
    refine vc_e (ests st 0 [_, _, _, _] sizeOf118 ?_)
    intro w st; dsimp only [setNth, wr] at st
    refine et (vk1 2 (vc_ret (vq_block_ret (vq_then_ret ?_))))
    rotate_left
    focus
     intro hc63
     try simp only [dn] at hc63
     have hnn := hn hc63
     have hM : n ≤ 9223372036854775807 := by rw [hc63] at hgr; have := of_decide_eq_false hgr.symm; omega
     refine vc_seq ?_
     refine vdr0 Tryz.mixed [Yt 0, Yt 1, Yt 2, Yt 3, Yt 4, Yt 5, Yt 6, Yt 7, Yt 8, Yt 9, Yt 10, Yt 11, Yt 12, Yt 13, Yt 14, Yt 15, Yt 16, Yt 17, Yt 18, Yt 19, Nt 20, Yt 21, Yt 22] st ?_
     clear st; intro w st hS
     refine pm hS ?_
     refine pnk hS ?_
     refine pfz hS 1 underlying178 sizeOf3 ?_
     refine pld hS 1 isAgg3 ?_
     refine pm hS ?_
     refine pnk hS ?_
     refine pf0 hS underlying178 sizeOf9 ?_
     refine pld hS 1 isAgg9 ?_
     refine vp_take rfl rfl rfl hS (fun w st => y_lens rfl underlying9) ?_
     refine vp_take rfl rfl rfl hS (fun w st => y_lss rfl rfl) ?_
     refine vp_part rfl rfl rfl hS rfl ?_ ?_
     focus
      intro hg97
      try simp only [dn] at hg97
      refine pm hS ?_
      refine pnk hS ?_
      refine pf0 hS underlying178 sizeOf9 ?_
      refine pld hS 1 isAgg9 ?_
      refine pm hS ?_
      refine pnk hS ?_
      refine pfz hS 1 underlying178 sizeOf3 ?_
      refine pld hS 1 isAgg3 ?_
      refine vp_take rfl rfl rfl hS (fun w st => y_ixs (k := _) rfl rfl underlying9 rfl (by omega)) ?_
      refine vp_do rfl (e_call [_] rfl rfl call115 rfl (letter_any _ _) ?_)
      rintro _ _ ⟨rfl, rfl⟩
      refine vp_next (by exact st) ?_; intro hS
      refine vp_take rfl rfl rfl hS (fun w st => y_pickt rfl rfl) ?_
      refine vp_take rfl rfl rfl hS (fun w st => y_as rfl) ?_
      refine vp_end (vq_then (vk5 0 2 3 4 86 ?_))
      refine vif ?_ ?_
      intro hc86
      try simp only [dn] at hc86
      refine sr ?_
      iterate 2 refine ym ?_
      refine ynk ?_
      refine yfz 1 underlying178 sizeOf3 ?_
      refine yl st 1 isAgg3 ?_
      refine vc_e (e_call [_, _, _] rfl rfl call229 rfl (wrong_any b s _ _ _ _ _ _ (st.res (i := 1) rfl)) ?_)
      rintro _ w ⟨rfl, cw, hw⟩
      replace st := st.turn (i := 1) (r' := .blk b _) rfl rfl rfl cw (.inl (by simp)) hw
      dsimp only [setNth] at st
      refine vc_e (ests st 0 [_, _, _, _] sizeOf118 ?_)
      intro w st; dsimp only [setNth, wr] at st
      refine et (vk1 2 (vc_ret (vq_block_ret (vq_then_ret ?_))))
      rotate_left
      intro hc86
      try simp only [dn] at hc86
      refine vc_code_skip (vq_block (vq_then (vk4 0 2 3 4 (vc_seq ?_))))
      refine vdr Tryz.mixed [Yt 0, Yt 1, Yt 2, Yt 3, Yt 4, Yt 5, Yt 6, Yt 7, Yt 8, Yt 9, Yt 10, Yt 11, Yt 12, Yt 13, Nt 14] [.blk b (scn s j fa fr)] st ?_
      clear st; intro w st hS
      refine pm hS ?_
      refine pnk hS ?_
      refine pf0 hS underlying178 sizeOf9 ?_
      refine pld hS 0 isAgg9 ?_
      iterate 2 refine pm hS ?_
      refine pnk hS ?_
      refine pfz hS 1 underlying178 sizeOf3 ?_
      refine pld hS 0 isAgg3 ?_
      refine vp_take rfl rfl rfl hS (fun w st => y_sls (i := _) (j := _) rfl rfl rfl underlying9 rfl rfl (by omega) (by omega)) ?_
      refine pm hS ?_
      refine vp_take rfl rfl rfl hS (fun w st => y_cvi rfl underlying2 underlying182 (IntWalk.i64_in _ ⟨by omega, by omega⟩ : _ = (n : Int))) ?_
      refine pm hS ?_
      refine vp_take rfl rfl rfl hS (fun w st => ybd (.agg #[_, _, _, _]) [(0, _), (1, _), (2, _), (3, _)]) ?_
      refine vp_do rfl (ests st 0 [_, _, _, _] sizeOf118 ?_)
      intro w st; dsimp only [setNth, wr] at st
      refine vp_next st.dr ?_; intro hS
      refine vp_end (vq_then (vk1 2 (vc_ret ?_)))
     rotate_left 2
     intro hg97
     try simp only [dn] at hg97
     iterate 9 refine vp_skip rfl rfl rfl hS ?_
     refine vp_do rfl (e_skip rfl rfl (vp_next hS (fun hS => ?_)))
     refine vp_take rfl rfl rfl hS (fun w st => y_pickf rfl rfl) ?_
     refine vp_take rfl rfl rfl hS (fun w st => y_as rfl) ?_
     refine vp_end (vq_then (vk5 0 2 3 4 86 ?_))
     refine vc_iff rfl ?_
     refine vc_code_skip (vq_block (vq_then (vk4 0 2 3 4 (vc_seq ?_))))
     refine vdr Tryz.mixed [Yt 0, Yt 1, Yt 2, Yt 3, Yt 4, Yt 5, Yt 6, Yt 7, Yt 8, Yt 9, Yt 10, Yt 11, Yt 12, Yt 13, Nt 14] [.blk b (scn s j fa fr)] st ?_
     clear st; intro w st hS
     refine pm hS ?_
     refine pnk hS ?_
     refine pf0 hS underlying178 sizeOf9 ?_
     refine pld hS 0 isAgg9 ?_
     iterate 2 refine pm hS ?_
     refine pnk hS ?_
     refine pfz hS 1 underlying178 sizeOf3 ?_
     refine pld hS 0 isAgg3 ?_
     refine vp_take rfl rfl rfl hS (fun w st => y_sls (i := _) (j := _) rfl rfl rfl underlying9 rfl rfl (by omega) (by omega)) ?_
     refine pm hS ?_
     refine vp_take rfl rfl rfl hS (fun w st => y_cvi rfl underlying2 underlying182 (IntWalk.i64_in _ ⟨by omega, by omega⟩ : _ = (n : Int))) ?_
     refine pm hS ?_
     refine vp_take rfl rfl rfl hS (fun w st => ybd (.agg #[_, _, _, _]) [(0, _), (1, _), (2, _), (3, _)]) ?_
     refine vp_do rfl (ests st 0 [_, _, _, _] sizeOf118 ?_)
     intro w st; dsimp only [setNth, wr] at st
     refine vp_next st.dr ?_; intro hS
     refine vp_end (vq_then (vk1 2 (vc_ret ?_)))
  rotate_left 5
  focus
   intro hg71
   try simp only [dn] at hg71
   iterate 7 refine vsk ?_
   refine ypf ?_
   iterate 2 refine ym ?_
   refine ypf ?_
   refine ya ?_
   refine et (vk5 0 2 3 4 63 ?_)
   refine vif ?_ ?_
   intro hc63
   try simp only [dn] at hc63
   refine sr ?_
   iterate 2 refine ym ?_
   refine vc_e (e_call [_, _, _] rfl rfl call229 rfl (wrong_any b s _ _ _ _ _ _ (st.res (i := 1) rfl)) ?_)
   rintro _ w ⟨rfl, cw, hw⟩
   replace st := st.turn (i := 1) (r' := .blk b _) rfl rfl rfl cw (.inl (by simp)) hw
   dsimp only [setNth] at st
   refine vc_e (ests st 0 [_, _, _, _] sizeOf118 ?_)
   intro w st; dsimp only [setNth, wr] at st
   refine et (vk1 2 (vc_ret (vq_block_ret (vq_then_ret ?_))))
   rotate_left
   focus
    intro hc63
    try simp only [dn] at hc63
    have hnn := hn hc63
    have hM : n ≤ 9223372036854775807 := by rw [hc63] at hgr; have := of_decide_eq_false hgr.symm; omega
    refine vc_seq ?_
    refine vdr0 Tryz.mixed [Yt 0, Yt 1, Yt 2, Yt 3, Yt 4, Yt 5, Yt 6, Yt 7, Yt 8, Yt 9, Yt 10, Yt 11, Yt 12, Yt 13, Yt 14, Yt 15, Yt 16, Yt 17, Yt 18, Yt 19, Nt 20, Yt 21, Yt 22] st ?_
    clear st; intro w st hS
    refine pm hS ?_
    refine pnk hS ?_
    refine pfz hS 1 underlying178 sizeOf3 ?_
    refine pld hS 1 isAgg3 ?_
    refine pm hS ?_
    refine pnk hS ?_
    refine pf0 hS underlying178 sizeOf9 ?_
    refine pld hS 1 isAgg9 ?_
    refine vp_take rfl rfl rfl hS (fun w st => y_lens rfl underlying9) ?_
    refine vp_take rfl rfl rfl hS (fun w st => y_lss rfl rfl) ?_
    refine vp_part rfl rfl rfl hS rfl ?_ ?_
    focus
     intro hg97
     try simp only [dn] at hg97
     refine pm hS ?_
     refine pnk hS ?_
     refine pf0 hS underlying178 sizeOf9 ?_
     refine pld hS 1 isAgg9 ?_
     refine pm hS ?_
     refine pnk hS ?_
     refine pfz hS 1 underlying178 sizeOf3 ?_
     refine pld hS 1 isAgg3 ?_
     refine vp_take rfl rfl rfl hS (fun w st => y_ixs (k := _) rfl rfl underlying9 rfl (by omega)) ?_
     refine vp_do rfl (e_call [_] rfl rfl call115 rfl (letter_any _ _) ?_)
     rintro _ _ ⟨rfl, rfl⟩
     refine vp_next (by exact st) ?_; intro hS
     refine vp_take rfl rfl rfl hS (fun w st => y_pickt rfl rfl) ?_
     refine vp_take rfl rfl rfl hS (fun w st => y_as rfl) ?_
     refine vp_end (vq_then (vk5 0 2 3 4 86 ?_))
     refine vif ?_ ?_
     intro hc86
     try simp only [dn] at hc86
     refine sr ?_
     iterate 2 refine ym ?_
     refine ynk ?_
     refine yfz 1 underlying178 sizeOf3 ?_
     refine yl st 1 isAgg3 ?_
     refine vc_e (e_call [_, _, _] rfl rfl call229 rfl (wrong_any b s _ _ _ _ _ _ (st.res (i := 1) rfl)) ?_)
     rintro _ w ⟨rfl, cw, hw⟩
     replace st := st.turn (i := 1) (r' := .blk b _) rfl rfl rfl cw (.inl (by simp)) hw
     dsimp only [setNth] at st
     refine vc_e (ests st 0 [_, _, _, _] sizeOf118 ?_)
     intro w st; dsimp only [setNth, wr] at st
     refine et (vk1 2 (vc_ret (vq_block_ret (vq_then_ret ?_))))
     rotate_left
     intro hc86
     try simp only [dn] at hc86
     refine vc_code_skip (vq_block (vq_then (vk4 0 2 3 4 (vc_seq ?_))))
     refine vdr Tryz.mixed [Yt 0, Yt 1, Yt 2, Yt 3, Yt 4, Yt 5, Yt 6, Yt 7, Yt 8, Yt 9, Yt 10, Yt 11, Yt 12, Yt 13, Nt 14] [.blk b (scn s j fa fr)] st ?_
     clear st; intro w st hS
     refine pm hS ?_
     refine pnk hS ?_
     refine pf0 hS underlying178 sizeOf9 ?_
     refine pld hS 0 isAgg9 ?_
     iterate 2 refine pm hS ?_
     refine pnk hS ?_
     refine pfz hS 1 underlying178 sizeOf3 ?_
     refine pld hS 0 isAgg3 ?_
     refine vp_take rfl rfl rfl hS (fun w st => y_sls (i := _) (j := _) rfl rfl rfl underlying9 rfl rfl (by omega) (by omega)) ?_
     refine pm hS ?_
     refine vp_take rfl rfl rfl hS (fun w st => y_cvi rfl underlying2 underlying182 (IntWalk.i64_in _ ⟨by omega, by omega⟩ : _ = (n : Int))) ?_
     refine pm hS ?_
     refine vp_take rfl rfl rfl hS (fun w st => ybd (.agg #[_, _, _, _]) [(0, _), (1, _), (2, _), (3, _)]) ?_
     refine vp_do rfl (ests st 0 [_, _, _, _] sizeOf118 ?_)
     intro w st; dsimp only [setNth, wr] at st
     refine vp_next st.dr ?_; intro hS
     refine vp_end (vq_then (vk1 2 (vc_ret ?_)))
    rotate_left 2
    intro hg97
    try simp only [dn] at hg97
    iterate 9 refine vp_skip rfl rfl rfl hS ?_
    refine vp_do rfl (e_skip rfl rfl (vp_next hS (fun hS => ?_)))
    refine vp_take rfl rfl rfl hS (fun w st => y_pickf rfl rfl) ?_
    refine vp_take rfl rfl rfl hS (fun w st => y_as rfl) ?_
    refine vp_end (vq_then (vk5 0 2 3 4 86 ?_))
    refine vc_iff rfl ?_
    refine vc_code_skip (vq_block (vq_then (vk4 0 2 3 4 (vc_seq ?_))))
    refine vdr Tryz.mixed [Yt 0, Yt 1, Yt 2, Yt 3, Yt 4, Yt 5, Yt 6, Yt 7, Yt 8, Yt 9, Yt 10, Yt 11, Yt 12, Yt 13, Nt 14] [.blk b (scn s j fa fr)] st ?_
    clear st; intro w st hS
    refine pm hS ?_
    refine pnk hS ?_
    refine pf0 hS underlying178 sizeOf9 ?_
    refine pld hS 0 isAgg9 ?_
    iterate 2 refine pm hS ?_
    refine pnk hS ?_
    refine pfz hS 1 underlying178 sizeOf3 ?_
    refine pld hS 0 isAgg3 ?_
    refine vp_take rfl rfl rfl hS (fun w st => y_sls (i := _) (j := _) rfl rfl rfl underlying9 rfl rfl (by omega) (by omega)) ?_
    refine pm hS ?_
    refine vp_take rfl rfl rfl hS (fun w st => y_cvi rfl underlying2 underlying182 (IntWalk.i64_in _ ⟨by omega, by omega⟩ : _ = (n : Int))) ?_
    refine pm hS ?_
    refine vp_take rfl rfl rfl hS (fun w st => ybd (.agg #[_, _, _, _]) [(0, _), (1, _), (2, _), (3, _)]) ?_
    refine vp_do rfl (ests st 0 [_, _, _, _] sizeOf118 ?_)
    intro w st; dsimp only [setNth, wr] at st
    refine vp_next st.dr ?_; intro hS
    refine vp_end (vq_then (vk1 2 (vc_ret ?_)))
  all_goals
   refine vq_ret1 st (.inl rfl) results200 (by exact .cell 0 rfl rfl isAgg118 sizeOf118) ?_
   refine ⟨_, rfl, ?_⟩
   have hlen : (List.take (j - i) (List.drop i s)).length = j - i := by simp; omega
   have hpos : i < j := by
    rcases Nat.lt_or_ge i j with h | h
    ·exact h
    ·exfalso
     rw [show j - i = 0 by omega, List.take_zero, drop_cons hi, List.takeWhile_cons, if_pos hd] at hT
     cases hT
   refine ⟨st.chg, ?_⟩
   rw [tokAt_num hi hc hd, hT, hlen, show i + (j - i) = j by omega]
   have hr := st.res (i := 1) rfl
   first
   | (rw [if_pos (.inl ⟨by omega, u8_eq48 (by assumption)⟩)]; exact ⟨rfl, _, hr⟩)
   | (rw [if_pos (.inr (of_decide_eq_true (by rw [← hgr]; assumption)))]; exact ⟨rfl, _, hr⟩)
   | (have hNB : ¬((1 < j - i ∧ s.getD i 0 = 48) ∨ 9223372036854775807 < numVal (List.take (j - i) (List.drop i s))) := by
        rintro (⟨h1, h2⟩ | h2)
        · have h3 : ((s.getD i 0).toNat : Int) = 48 := by rw [h2]; rfl
          omega
        · omega
      rw [if_neg hNB]
      first
      | (rw [if_pos ⟨by omega, by assumption⟩]; exact ⟨rfl, _, hr⟩)
      | (rw [if_neg (by rintro ⟨h1, h2⟩; first | omega | simp_all)]
         exact ⟨by rw [← hnn]; rfl, by dsimp only; rw [hlen, show i + (j - i) = j by omega]; exact hr⟩))
 intro hg21
 try simp only [dn] at hg21
 have hT := tw_end (fun h => absurd h (by omega)) he
 iterate 9 refine vp_skip rfl rfl rfl hS ?_
 refine vp_do rfl (e_skip rfl rfl (vp_next hS (fun hS => ?_)))
 refine vp_take rfl rfl rfl hS (fun w st => y_pickf rfl rfl) ?_
 refine vp_end (vq_then (vk6 0 2 3 4 5 32 ?_))
 refine vc_iff rfl ?_
 refine vc_exit (vq_then_exit (vq_then_exit (vq_block_exit (vq_then (vk5 0 2 3 4 5 (vc_seq (vc_block (sr ?_))))))))
 refine ym ?_
 refine ynk ?_
 refine yfz 1 underlying178 sizeOf3 ?_
 refine yl st 1 isAgg3 ?_
 refine ym ?_
 refine vy (y_add rfl rfl rfl (by omega) (by omega)) ?_
 refine vy (y_gtr rfl rfl) ?_
 refine vmb ?_ ?_
 focus
  intro hg71
  try simp only [dn] at hg71
  refine ym ?_
  refine ynk ?_
  refine vy (y_fa0 rfl underlying178 rfl rfl sizeOf9 rfl) ?_
  refine yl st 1 isAgg9 ?_
  refine ym ?_
  refine vy (y_ixs (k := _) rfl rfl underlying9 rfl (by omega)) ?_
  refine vy (y_eqi rfl rfl) ?_
  refine ypt ?_
  refine vmb ?_ ?_
  intro hg80
  try simp only [dn] at hg80
  refine vsk ?_
  refine ypt ?_
  refine ya ?_
  refine et (vk5 0 2 3 4 63 ?_)
  refine vc_ift rfl ?_
  refine sr ?_
  iterate 2 refine ym ?_
  refine vc_e (e_call [_, _, _] rfl rfl call229 rfl (wrong_any b s _ _ _ _ _ _ (st.res (i := 1) rfl)) ?_)
  rintro _ w ⟨rfl, cw, hw⟩
  replace st := st.turn (i := 1) (r' := .blk b _) rfl rfl rfl cw (.inl (by simp)) hw
  dsimp only [setNth] at st
  refine vc_e (ests st 0 [_, _, _, _] sizeOf118 ?_)
  intro w st; dsimp only [setNth, wr] at st
  refine et (vk1 2 (vc_ret (vq_block_ret (vq_then_ret ?_))))
  rotate_left
  focus
   intro hg80
   try simp only [dn] at hg80
   refine ym ?_
   refine ypf ?_
   refine ya ?_
   refine et (vk5 0 2 3 4 63 ?_)
   refine vif ?_ ?_
   intro hc63
   try simp only [dn] at hc63
   refine sr ?_
   iterate 2 refine ym ?_
   refine vc_e (e_call [_, _, _] rfl rfl call229 rfl (wrong_any b s _ _ _ _ _ _ (st.res (i := 1) rfl)) ?_)
   rintro _ w ⟨rfl, cw, hw⟩
   replace st := st.turn (i := 1) (r' := .blk b _) rfl rfl rfl cw (.inl (by simp)) hw
   dsimp only [setNth] at st
   refine vc_e (ests st 0 [_, _, _, _] sizeOf118 ?_)
   intro w st; dsimp only [setNth, wr] at st
   refine et (vk1 2 (vc_ret (vq_block_ret (vq_then_ret ?_))))
   rotate_left
   focus
    intro hc63
    try simp only [dn] at hc63
    have hnn := hn hc63
    have hM : n ≤ 9223372036854775807 := by rw [hc63] at hgr; have := of_decide_eq_false hgr.symm; omega
    refine vc_seq ?_
    refine vdr0 Tryz.mixed [Yt 0, Yt 1, Yt 2, Yt 3, Yt 4, Yt 5, Yt 6, Yt 7, Yt 8, Yt 9, Yt 10, Yt 11, Yt 12, Yt 13, Yt 14, Yt 15, Yt 16, Yt 17, Yt 18, Yt 19, Nt 20, Yt 21, Yt 22] st ?_
    clear st; intro w st hS
    refine pm hS ?_
    refine pnk hS ?_
    refine pfz hS 1 underlying178 sizeOf3 ?_
    refine pld hS 1 isAgg3 ?_
    refine pm hS ?_
    refine pnk hS ?_
    refine pf0 hS underlying178 sizeOf9 ?_
    refine pld hS 1 isAgg9 ?_
    refine vp_take rfl rfl rfl hS (fun w st => y_lens rfl underlying9) ?_
    refine vp_take rfl rfl rfl hS (fun w st => y_lss rfl rfl) ?_
    refine vp_part rfl rfl rfl hS rfl ?_ ?_
    focus
     intro hg97
     try simp only [dn] at hg97
     refine pm hS ?_
     refine pnk hS ?_
     refine pf0 hS underlying178 sizeOf9 ?_
     refine pld hS 1 isAgg9 ?_
     refine pm hS ?_
     refine pnk hS ?_
     refine pfz hS 1 underlying178 sizeOf3 ?_
     refine pld hS 1 isAgg3 ?_
     refine vp_take rfl rfl rfl hS (fun w st => y_ixs (k := _) rfl rfl underlying9 rfl (by omega)) ?_
     refine vp_do rfl (e_call [_] rfl rfl call115 rfl (letter_any _ _) ?_)
     rintro _ _ ⟨rfl, rfl⟩
     refine vp_next (by exact st) ?_; intro hS
     refine vp_take rfl rfl rfl hS (fun w st => y_pickt rfl rfl) ?_
     refine vp_take rfl rfl rfl hS (fun w st => y_as rfl) ?_
     refine vp_end (vq_then (vk5 0 2 3 4 86 ?_))
     refine vif ?_ ?_
     intro hc86
     try simp only [dn] at hc86
     refine sr ?_
     iterate 2 refine ym ?_
     refine ynk ?_
     refine yfz 1 underlying178 sizeOf3 ?_
     refine yl st 1 isAgg3 ?_
     refine vc_e (e_call [_, _, _] rfl rfl call229 rfl (wrong_any b s _ _ _ _ _ _ (st.res (i := 1) rfl)) ?_)
     rintro _ w ⟨rfl, cw, hw⟩
     replace st := st.turn (i := 1) (r' := .blk b _) rfl rfl rfl cw (.inl (by simp)) hw
     dsimp only [setNth] at st
     refine vc_e (ests st 0 [_, _, _, _] sizeOf118 ?_)
     intro w st; dsimp only [setNth, wr] at st
     refine et (vk1 2 (vc_ret (vq_block_ret (vq_then_ret ?_))))
     rotate_left
     intro hc86
     try simp only [dn] at hc86
     refine vc_code_skip (vq_block (vq_then (vk4 0 2 3 4 (vc_seq ?_))))
     refine vdr Tryz.mixed [Yt 0, Yt 1, Yt 2, Yt 3, Yt 4, Yt 5, Yt 6, Yt 7, Yt 8, Yt 9, Yt 10, Yt 11, Yt 12, Yt 13, Nt 14] [.blk b (scn s j fa fr)] st ?_
     clear st; intro w st hS
     refine pm hS ?_
     refine pnk hS ?_
     refine pf0 hS underlying178 sizeOf9 ?_
     refine pld hS 0 isAgg9 ?_
     iterate 2 refine pm hS ?_
     refine pnk hS ?_
     refine pfz hS 1 underlying178 sizeOf3 ?_
     refine pld hS 0 isAgg3 ?_
     refine vp_take rfl rfl rfl hS (fun w st => y_sls (i := _) (j := _) rfl rfl rfl underlying9 rfl rfl (by omega) (by omega)) ?_
     refine pm hS ?_
     refine vp_take rfl rfl rfl hS (fun w st => y_cvi rfl underlying2 underlying182 (IntWalk.i64_in _ ⟨by omega, by omega⟩ : _ = (n : Int))) ?_
     refine pm hS ?_
     refine vp_take rfl rfl rfl hS (fun w st => ybd (.agg #[_, _, _, _]) [(0, _), (1, _), (2, _), (3, _)]) ?_
     refine vp_do rfl (ests st 0 [_, _, _, _] sizeOf118 ?_)
     intro w st; dsimp only [setNth, wr] at st
     refine vp_next st.dr ?_; intro hS
     refine vp_end (vq_then (vk1 2 (vc_ret ?_)))
    rotate_left 2
    intro hg97
    try simp only [dn] at hg97
    iterate 9 refine vp_skip rfl rfl rfl hS ?_
    refine vp_do rfl (e_skip rfl rfl (vp_next hS (fun hS => ?_)))
    refine vp_take rfl rfl rfl hS (fun w st => y_pickf rfl rfl) ?_
    refine vp_take rfl rfl rfl hS (fun w st => y_as rfl) ?_
    refine vp_end (vq_then (vk5 0 2 3 4 86 ?_))
    refine vc_iff rfl ?_
    refine vc_code_skip (vq_block (vq_then (vk4 0 2 3 4 (vc_seq ?_))))
    refine vdr Tryz.mixed [Yt 0, Yt 1, Yt 2, Yt 3, Yt 4, Yt 5, Yt 6, Yt 7, Yt 8, Yt 9, Yt 10, Yt 11, Yt 12, Yt 13, Nt 14] [.blk b (scn s j fa fr)] st ?_
    clear st; intro w st hS
    refine pm hS ?_
    refine pnk hS ?_
    refine pf0 hS underlying178 sizeOf9 ?_
    refine pld hS 0 isAgg9 ?_
    iterate 2 refine pm hS ?_
    refine pnk hS ?_
    refine pfz hS 1 underlying178 sizeOf3 ?_
    refine pld hS 0 isAgg3 ?_
    refine vp_take rfl rfl rfl hS (fun w st => y_sls (i := _) (j := _) rfl rfl rfl underlying9 rfl rfl (by omega) (by omega)) ?_
    refine pm hS ?_
    refine vp_take rfl rfl rfl hS (fun w st => y_cvi rfl underlying2 underlying182 (IntWalk.i64_in _ ⟨by omega, by omega⟩ : _ = (n : Int))) ?_
    refine pm hS ?_
    refine vp_take rfl rfl rfl hS (fun w st => ybd (.agg #[_, _, _, _]) [(0, _), (1, _), (2, _), (3, _)]) ?_
    refine vp_do rfl (ests st 0 [_, _, _, _] sizeOf118 ?_)
    intro w st; dsimp only [setNth, wr] at st
    refine vp_next st.dr ?_; intro hS
    refine vp_end (vq_then (vk1 2 (vc_ret ?_)))
 rotate_left 5
 focus
  intro hg71
  try simp only [dn] at hg71
  iterate 7 refine vsk ?_
  refine ypf ?_
  iterate 2 refine ym ?_
  refine ypf ?_
  refine ya ?_
  refine et (vk5 0 2 3 4 63 ?_)
  refine vif ?_ ?_
  intro hc63
  try simp only [dn] at hc63
  refine sr ?_
  iterate 2 refine ym ?_
  refine vc_e (e_call [_, _, _] rfl rfl call229 rfl (wrong_any b s _ _ _ _ _ _ (st.res (i := 1) rfl)) ?_)
  rintro _ w ⟨rfl, cw, hw⟩
  replace st := st.turn (i := 1) (r' := .blk b _) rfl rfl rfl cw (.inl (by simp)) hw
  dsimp only [setNth] at st
  refine vc_e (ests st 0 [_, _, _, _] sizeOf118 ?_)
  intro w st; dsimp only [setNth, wr] at st
  refine et (vk1 2 (vc_ret (vq_block_ret (vq_then_ret ?_))))
  rotate_left
  focus
   intro hc63
   try simp only [dn] at hc63
   have hnn := hn hc63
   have hM : n ≤ 9223372036854775807 := by rw [hc63] at hgr; have := of_decide_eq_false hgr.symm; omega
   refine vc_seq ?_
   refine vdr0 Tryz.mixed [Yt 0, Yt 1, Yt 2, Yt 3, Yt 4, Yt 5, Yt 6, Yt 7, Yt 8, Yt 9, Yt 10, Yt 11, Yt 12, Yt 13, Yt 14, Yt 15, Yt 16, Yt 17, Yt 18, Yt 19, Nt 20, Yt 21, Yt 22] st ?_
   clear st; intro w st hS
   refine pm hS ?_
   refine pnk hS ?_
   refine pfz hS 1 underlying178 sizeOf3 ?_
   refine pld hS 1 isAgg3 ?_
   refine pm hS ?_
   refine pnk hS ?_
   refine pf0 hS underlying178 sizeOf9 ?_
   refine pld hS 1 isAgg9 ?_
   refine vp_take rfl rfl rfl hS (fun w st => y_lens rfl underlying9) ?_
   refine vp_take rfl rfl rfl hS (fun w st => y_lss rfl rfl) ?_
   refine vp_part rfl rfl rfl hS rfl ?_ ?_
   focus
    intro hg97
    try simp only [dn] at hg97
    refine pm hS ?_
    refine pnk hS ?_
    refine pf0 hS underlying178 sizeOf9 ?_
    refine pld hS 1 isAgg9 ?_
    refine pm hS ?_
    refine pnk hS ?_
    refine pfz hS 1 underlying178 sizeOf3 ?_
    refine pld hS 1 isAgg3 ?_
    refine vp_take rfl rfl rfl hS (fun w st => y_ixs (k := _) rfl rfl underlying9 rfl (by omega)) ?_
    refine vp_do rfl (e_call [_] rfl rfl call115 rfl (letter_any _ _) ?_)
    rintro _ _ ⟨rfl, rfl⟩
    refine vp_next (by exact st) ?_; intro hS
    refine vp_take rfl rfl rfl hS (fun w st => y_pickt rfl rfl) ?_
    refine vp_take rfl rfl rfl hS (fun w st => y_as rfl) ?_
    refine vp_end (vq_then (vk5 0 2 3 4 86 ?_))
    refine vif ?_ ?_
    intro hc86
    try simp only [dn] at hc86
    refine sr ?_
    iterate 2 refine ym ?_
    refine ynk ?_
    refine yfz 1 underlying178 sizeOf3 ?_
    refine yl st 1 isAgg3 ?_
    refine vc_e (e_call [_, _, _] rfl rfl call229 rfl (wrong_any b s _ _ _ _ _ _ (st.res (i := 1) rfl)) ?_)
    rintro _ w ⟨rfl, cw, hw⟩
    replace st := st.turn (i := 1) (r' := .blk b _) rfl rfl rfl cw (.inl (by simp)) hw
    dsimp only [setNth] at st
    refine vc_e (ests st 0 [_, _, _, _] sizeOf118 ?_)
    intro w st; dsimp only [setNth, wr] at st
    refine et (vk1 2 (vc_ret (vq_block_ret (vq_then_ret ?_))))
    rotate_left
    intro hc86
    try simp only [dn] at hc86
    refine vc_code_skip (vq_block (vq_then (vk4 0 2 3 4 (vc_seq ?_))))
    refine vdr Tryz.mixed [Yt 0, Yt 1, Yt 2, Yt 3, Yt 4, Yt 5, Yt 6, Yt 7, Yt 8, Yt 9, Yt 10, Yt 11, Yt 12, Yt 13, Nt 14] [.blk b (scn s j fa fr)] st ?_
    clear st; intro w st hS
    refine pm hS ?_
    refine pnk hS ?_
    refine pf0 hS underlying178 sizeOf9 ?_
    refine pld hS 0 isAgg9 ?_
    iterate 2 refine pm hS ?_
    refine pnk hS ?_
    refine pfz hS 1 underlying178 sizeOf3 ?_
    refine pld hS 0 isAgg3 ?_
    refine vp_take rfl rfl rfl hS (fun w st => y_sls (i := _) (j := _) rfl rfl rfl underlying9 rfl rfl (by omega) (by omega)) ?_
    refine pm hS ?_
    refine vp_take rfl rfl rfl hS (fun w st => y_cvi rfl underlying2 underlying182 (IntWalk.i64_in _ ⟨by omega, by omega⟩ : _ = (n : Int))) ?_
    refine pm hS ?_
    refine vp_take rfl rfl rfl hS (fun w st => ybd (.agg #[_, _, _, _]) [(0, _), (1, _), (2, _), (3, _)]) ?_
    refine vp_do rfl (ests st 0 [_, _, _, _] sizeOf118 ?_)
    intro w st; dsimp only [setNth, wr] at st
    refine vp_next st.dr ?_; intro hS
    refine vp_end (vq_then (vk1 2 (vc_ret ?_)))
   rotate_left 2
   intro hg97
   try simp only [dn] at hg97
   iterate 9 refine vp_skip rfl rfl rfl hS ?_
   refine vp_do rfl (e_skip rfl rfl (vp_next hS (fun hS => ?_)))
   refine vp_take rfl rfl rfl hS (fun w st => y_pickf rfl rfl) ?_
   refine vp_take rfl rfl rfl hS (fun w st => y_as rfl) ?_
   refine vp_end (vq_then (vk5 0 2 3 4 86 ?_))
   refine vc_iff rfl ?_
   refine vc_code_skip (vq_block (vq_then (vk4 0 2 3 4 (vc_seq ?_))))
   refine vdr Tryz.mixed [Yt 0, Yt 1, Yt 2, Yt 3, Yt 4, Yt 5, Yt 6, Yt 7, Yt 8, Yt 9, Yt 10, Yt 11, Yt 12, Yt 13, Nt 14] [.blk b (scn s j fa fr)] st ?_
   clear st; intro w st hS
   refine pm hS ?_
   refine pnk hS ?_
   refine pf0 hS underlying178 sizeOf9 ?_
   refine pld hS 0 isAgg9 ?_
   iterate 2 refine pm hS ?_
   refine pnk hS ?_
   refine pfz hS 1 underlying178 sizeOf3 ?_
   refine pld hS 0 isAgg3 ?_
   refine vp_take rfl rfl rfl hS (fun w st => y_sls (i := _) (j := _) rfl rfl rfl underlying9 rfl rfl (by omega) (by omega)) ?_
   refine pm hS ?_
   refine vp_take rfl rfl rfl hS (fun w st => y_cvi rfl underlying2 underlying182 (IntWalk.i64_in _ ⟨by omega, by omega⟩ : _ = (n : Int))) ?_
   refine pm hS ?_
   refine vp_take rfl rfl rfl hS (fun w st => ybd (.agg #[_, _, _, _]) [(0, _), (1, _), (2, _), (3, _)]) ?_
   refine vp_do rfl (ests st 0 [_, _, _, _] sizeOf118 ?_)
   intro w st; dsimp only [setNth, wr] at st
   refine vp_next st.dr ?_; intro hS
   refine vp_end (vq_then (vk1 2 (vc_ret ?_)))
 all_goals
  refine vq_ret1 st (.inl rfl) results200 (by exact .cell 0 rfl rfl isAgg118 sizeOf118) ?_
  refine ⟨_, rfl, ?_⟩
  have hlen : (List.take (j - i) (List.drop i s)).length = j - i := by simp; omega
  have hpos : i < j := by
   rcases Nat.lt_or_ge i j with h | h
   ·exact h
   ·exfalso
    rw [show j - i = 0 by omega, List.take_zero, drop_cons hi, List.takeWhile_cons, if_pos hd] at hT
    cases hT
  refine ⟨st.chg, ?_⟩
  rw [tokAt_num hi hc hd, hT, hlen, show i + (j - i) = j by omega]
  have hr := st.res (i := 1) rfl
  first
  | (rw [if_pos (.inl ⟨by omega, u8_eq48 (by assumption)⟩)]; exact ⟨rfl, _, hr⟩)
  | (rw [if_pos (.inr (of_decide_eq_true (by rw [← hgr]; assumption)))]; exact ⟨rfl, _, hr⟩)
  | (have hNB : ¬((1 < j - i ∧ s.getD i 0 = 48) ∨ 9223372036854775807 < numVal (List.take (j - i) (List.drop i s))) := by
       rintro (⟨h1, h2⟩ | h2)
       · have h3 : ((s.getD i 0).toNat : Int) = 48 := by rw [h2]; rfl
         omega
       · omega
     rw [if_neg hNB]
     first
     | (rw [if_pos ⟨by omega, by assumption⟩]; exact ⟨rfl, _, hr⟩)
     | (rw [if_neg (by rintro ⟨h1, h2⟩; omega)]
        exact ⟨by rw [← hnn]; rfl, by dsimp only; rw [hlen, show i + (j - i) = j by omega]; exact hr⟩))
end Go.Proofs.YtnmhlpnapgojjaaGreatDoor


namespace Go.Proofs.YtnmhlpnapgojjaaGreatDoor
open Go.RowKit Sx LexS _root_.Go.Proofs.Tryz
abbrev tok4 (k : Int) (t : List UInt8) (wd a : Int) : List Value := [.int .u8 k, str t, .int .i64 wd, .int .i64 a]
/-- the same, its parts named -/
def RdFlat (s : List UInt8) (i : Nat) (fa fr : Int) (res : TokR) (k : Int) (t : List UInt8) (wd a j fa' fr' : Int) : Prop := match res with
 | .tok x => k = x.kind ∧ t = x.text ∧ wd = x.word ∧ a = x.at_ ∧ j = ((i + x.text.length : Nat) : Int) ∧ fa' = fa ∧ fr' = fr
 | .bad rule p => k = 0 ∧ t = [] ∧ wd = 0 ∧ a = 0 ∧ fa' = p ∧ fr' = rule
theorem rd_flat {b : Nat} {s : List UInt8} {i : Nat} {fa fr : Int} {res : TokR} {v : Value} {w' : World} (h : RdPost b s i fa fr res v w') :
    ∃ k t wd a j fa' fr', v = .agg (tok4 k t wd a).toArray ∧ w'.heap[b]? = some (scn s j fa' fr') ∧ RdFlat s i fa fr res k t wd a j fa' fr' := by
 cases res with
 | tok x => exact ⟨_, _, _, _, _, _, _, h.1, h.2, rfl, rfl, rfl, rfl, rfl, rfl, rfl⟩
 | bad rule p => obtain ⟨h1, j, h2⟩ := h; exact ⟨0, [], 0, 0, j, _, _, h1, h2, rfl, rfl, rfl, rfl, rfl, rfl⟩
theorem bad_rule {r : List UInt8} {i rule p : Nat} (h : tokAt r i = .bad rule p) : 1 ≤ rule ∧ rule ≤ 4 := by
 simp only [tokAt] at h
 (repeat' split at h) <;> first | (simp at h; done) | (simp at h; omega)
/-- what 'next' leaves: the token, or none -/
def NxPost (b : Nat) (s : List UInt8) (i : Nat) (v : Value) (w' : World) : Prop :=
 if s.length ≤ i + skip (s.drop i) then v = .tuple #[.agg zeroL.toArray, .bool false] ∧ ∃ j : Int, w'.heap[b]? = some (scn s j 0 0)
 else match tokAt (s.drop (i + skip (s.drop i))) (i + skip (s.drop i)) with
  | .tok x => v = .tuple #[.agg (tokL x).toArray, .bool true] ∧ w'.heap[b]? = some (scn s ((i + skip (s.drop i) + x.text.length : Nat) : Int) 0 0)
  | .bad rule p => v = .tuple #[.agg zeroL.toArray, .bool false] ∧ ∃ j : Int, w'.heap[b]? = some (scn s j (p : Int) (rule : Int))

set_option maxHeartbeats 1000000 in
theorem next_any (b : Nat) (s : List UInt8) (i : Nat) (w : World) (hb : w.heap[b]? = some (scn s i 0 0)) (hi : i ≤ s.length) (hs : s.length ≤ 3000000) :
    Ret Tryz.prog 142 [.pointer (some ⟨b, 0, none⟩)] w fun v w' => Chg [b] w w' ∧ NxPost b s i v w' := by
 refine ret_of [_] func142 rfl ntmps142 rfl ?_
 have st := St.init w [b]
 have hle := skip_le (s.drop i)
 simp only [List.length_drop] at hle
 replace st := St.of1 [b] hb
 refine sr ?_
 refine vc_e (e_al (l := [_, _, _, _]) st rfl rfl zeroValue118 rfl ?_)
 intro b2 w hb2 st
 refine ya ?_
 refine et (vk2 0 2 (sr ?_))
 refine ym ?_
 refine vc_e (e_call [_] rfl rfl call197 rfl (over_any b s i _ _ _ (st.res (i := 1) rfl) hi hs) ?_)
 rintro _ w ⟨rfl, cw, hw⟩
 replace st := st.turn (i := 1) (r' := .blk b _) rfl rfl rfl cw (.inl (by simp)) hw
 dsimp only [setNth] at st
 have hi1 : i + skip (List.drop i s) ≤ s.length := by omega
 refine et (vk2 0 2 (vc_seq (vc_seq ?_)))
 refine vdr0 Tryz.mixed [Yt 0, Yt 1, Yt 2, Yt 3, Yt 4, Yt 5, Yt 6, Yt 7, Yt 8, Yt 9] st ?_
 clear st; intro w st hS
 refine pm hS ?_
 refine pnk hS ?_
 refine pfz hS 1 underlying178 sizeOf3 ?_
 refine pld hS 1 isAgg3 ?_
 refine pm hS ?_
 refine pnk hS ?_
 refine pf0 hS underlying178 sizeOf9 ?_
 refine pld hS 1 isAgg9 ?_
 refine vp_take rfl rfl rfl hS (fun w st => y_lens rfl underlying9) ?_
 refine vp_take rfl rfl rfl hS (fun w st => y_geq rfl rfl) ?_
 refine vp_end (vq_then (vk3 0 2 19 ?_))
 refine vif ?_ ?_
 ·intro hc19
  try simp only [dn] at hc19
  refine sr ?_
  refine vy (ybd (.agg #[_, _, _, _]) []) ?_
  refine vc_e (ests st 0 [_, _, _, _] sizeOf118 ?_)
  intro w st; dsimp only [setNth, wr] at st
  refine ya ?_
  refine et (vk2 2 3 (vc_ret (vq_then_ret ?_)))
  refine vq_ret2 st (.inl rfl) results142 (by exact .cell 0 rfl rfl isAgg118 sizeOf118) (.tmp rfl) ?_
  refine ⟨_, rfl, ?_⟩
  refine ⟨st.chg, ?_⟩
  unfold NxPost
  rw [if_pos (by omega)]
  exact ⟨rfl, _, st.res (i := 1) rfl⟩
 intro hc19
 try simp only [dn] at hc19
 refine kt (vk2 0 2 (sr ?_))
 refine ym ?_
 refine vy (y_mf [_] [] rfl rfl) ?_
 refine ym ?_
 refine vy (y_mf [_] [] rfl rfl) ?_
 refine ym ?_
 refine vy (y_mf [_] [] rfl rfl) ?_
 refine vy (ybd (.agg #[_, _, _]) [(0, _), (1, _), (2, _)]) ?_
 refine vc_e (e_al (l := [_, _, _]) st rfl rfl zeroValue219 rfl ?_)
 intro b4 w hb4 st
 refine vc_e (ests st 0 [_, _, _] sizeOf219 ?_)
 intro w st; dsimp only [setNth, wr] at st
 refine et (vk3 0 2 4 (sr ?_))
 refine ya ?_
 refine et (vk4 0 2 4 5 (vc_seq (vc_seq ?_)))
 refine vdr0 Tryz.mixed [Yt 0, Yt 1, Yt 2, Yt 3, Yt 4, Yt 5, Yt 6, Yt 7, Yt 8, Yt 9] st ?_
 clear st; intro w st hS
 refine pm hS ?_
 refine pnk hS ?_
 refine pf0 hS underlying178 sizeOf9 ?_
 refine pld hS 2 isAgg9 ?_
 refine pm hS ?_
 refine pnk hS ?_
 refine pfz hS 1 underlying178 sizeOf3 ?_
 refine pld hS 2 isAgg3 ?_
 refine vp_take rfl rfl rfl hS (fun w st => y_ixs (k := _) rfl rfl underlying9 rfl (by omega)) ?_
 refine vp_take rfl rfl rfl hS (fun w st => y_as rfl) ?_
 refine vp_end (vq_then (vk5 0 2 4 5 6 (vc_block (sr ?_))))
 refine ym ?_
 refine vc_e (e_call [_] rfl rfl call115 rfl (letter_any _ _) ?_)
 rintro _ _ ⟨rfl, rfl⟩
 refine ya ?_
 refine et (vk6 0 2 4 5 6 37 ?_)
 refine vif ?_ ?_
 intro hc37
 try simp only [dn] at hc37
 refine vc_region ?_
 refine ya ?_
 refine vc_end (vq_block (vq_then (vk4 0 2 4 5 (sr ?_))))
 refine ym ?_
 refine vy (y_iaa (k := 1) rfl rfl underlying219 sizeOf141 rfl (by omega)) ?_
 refine yl st 0 isAgg141 ?_
 refine vc_e (e_callv [] rfl rfl rfl call199 rfl (word_rd b s _ _ _ _ (st.res (i := 2) rfl) (by omega) hs (by assumption)) ?_)
 rotate_left
 focus
  intro hc37
  try simp only [dn] at hc37
  refine sr ?_
  refine ym ?_
  refine vc_e (e_call [_] rfl rfl call113 rfl (digit_any _ _) ?_)
  rintro _ _ ⟨rfl, rfl⟩
  refine ya ?_
  refine et (vk5 0 2 4 5 40 ?_)
  refine vif ?_ ?_
  intro hc40
  try simp only [dn] at hc40
  refine vc_region ?_
  refine ya ?_
  refine vc_end (vq_block (vq_then (vk4 0 2 4 5 (sr ?_))))
  refine ym ?_
  refine vy (y_iaa (k := 2) rfl rfl underlying219 sizeOf141 rfl (by omega)) ?_
  refine yl st 0 isAgg141 ?_
  refine vc_e (e_callv [] rfl rfl rfl call200 rfl (number_rd b s _ _ _ _ (st.res (i := 2) rfl) (by omega) hs (by assumption) (by assumption)) ?_)
  rotate_left
  intro hc40
  try simp only [dn] at hc40
  refine vc_code_skip (vq_block (vq_then (vk4 0 2 4 5 (sr ?_))))
  refine ym ?_
  refine vy (y_iaa (k := 0) rfl rfl underlying219 sizeOf141 rfl (by omega)) ?_
  refine yl st 0 isAgg141 ?_
  refine vc_e (e_callv [] rfl rfl rfl call198 rfl (sign_rd b s _ _ _ _ (st.res (i := 2) rfl) (by omega) hs (by assumption) (by assumption)) ?_)
 all_goals
  rintro _ w ⟨cw, hp⟩
  obtain ⟨k, t, wd, a, j, fa', fr', rfl, hw, hf⟩ := rd_flat hp
  replace st := st.turn (i := 2) (r' := .blk b _) rfl rfl rfl cw (.inl (by simp)) hw
  dsimp only [setNth] at st
  refine vc_e (e_al (l := [_, _, _, _]) st rfl rfl zeroValue118 rfl ?_)
  intro b7 w hb7 st
  refine vc_e (ests st 0 [_, _, _, _] sizeOf118 ?_)
  intro w st; dsimp only [setNth, wr] at st
  refine et (vk3 0 2 7 (vc_seq ?_))
  refine vdr Tryz.mixed [Yt 0, Yt 1, Yt 2, Yt 3, Yt 4, Yt 5, Yt 6, Nt 7, Yt 8] [.blk b7 (.cells (tok4 k t wd a).toArray 118 (0, 0)), .blk b (scn s j fa' fr')] st ?_
  clear st; intro w st hS
  refine vp_take rfl rfl rfl hS (fun w st => y_lda (vs := [_, _, _, _]) st 0 rfl isAgg118 sizeOf118 rfl rfl) ?_
  refine pm hS ?_
  refine pnk hS ?_
  refine pfz hS 2 underlying178 sizeOf29 ?_
  refine vp_take rfl rfl rfl hS (fun w st => y_fa (k := 1) rfl underlying29 rfl rfl sizeOf3 rfl) ?_
  refine pld hS 1 isAgg3 ?_
  refine vp_take rfl rfl rfl hS (fun w st => y_eqi rfl rfl) ?_
  refine vp_do rfl (ests st 2 [_, _, _, _] sizeOf118 ?_)
  intro w st; dsimp only [setNth, wr] at st
  refine vp_next st.dr ?_; intro hS
  refine vp_take rfl rfl rfl hS (fun w st => y_as rfl) ?_
  refine vp_end (vq_then (vk2 2 3 (vc_ret ?_)))
  refine vq_ret2 st (.inl rfl) results142 (by exact .cell 2 rfl rfl isAgg118 sizeOf118) (.tmp rfl) ?_
  refine ⟨_, rfl, ?_⟩
  refine ⟨st.chg, ?_⟩
  unfold NxPost
  rw [if_neg (by omega)]
  have hr := st.res (i := 3) rfl
  cases hR : tokAt (List.drop (i + skip (List.drop i s)) s) (i + skip (List.drop i s)) with
  | tok x => rw [hR] at hf; obtain ⟨rfl, rfl, rfl, rfl, rfl, rfl, rfl⟩ := hf; exact ⟨rfl, hr⟩
  | bad rule p =>
   have hb' := bad_rule hR
   rw [hR] at hf; obtain ⟨rfl, rfl, rfl, rfl, rfl, rfl⟩ := hf
   refine ⟨?_, _, hr⟩
   rw [show (decide ((rule : Int) = 0)) = false from by simp; omega]
end Go.Proofs.YtnmhlpnapgojjaaGreatDoor


namespace Go.Proofs.YtnmhlpnapgojjaaGreatDoor
open Go.RowKit Sx LexS _root_.Go.Proofs.Tryz
theorem Tryz.info118 : Tryz.prog.info? 118 = some Tryz.t118 := by kernel_rfl
def toksL (l : List Tok) : List Value := l.flatMap tokL
theorem toksL_snoc (l : List Tok) (t : Tok) : toksL (l ++ [t]) = toksL l ++ tokL t := by simp [toksL]
def NxRel (s : List UInt8) (i : Nat) (k : Int) (t : List UInt8) (wd a : Int) (ok : Bool) (j fa fr : Int) : Prop :=
 (ok = true ∧ ∃ x : Tok, i + skip (s.drop i) < s.length ∧ tokAt (s.drop (i + skip (s.drop i))) (i + skip (s.drop i)) = .tok x ∧ k = x.kind ∧ t = x.text ∧ wd = x.word ∧ a = x.at_ ∧ j = ((i + skip (s.drop i) + x.text.length : Nat) : Int) ∧ fa = 0 ∧ fr = 0) ∨
 (ok = false ∧ s.length ≤ i + skip (s.drop i) ∧ fa = 0 ∧ fr = 0) ∨
 (ok = false ∧ ∃ rule p : Nat, i + skip (s.drop i) < s.length ∧ tokAt (s.drop (i + skip (s.drop i))) (i + skip (s.drop i)) = .bad rule p ∧ fa = p ∧ fr = rule)
theorem nx_flat {b : Nat} {s : List UInt8} {i : Nat} {v : Value} {w' : World} (h : NxPost b s i v w') :
    ∃ k t wd a ok j fa fr, v = .tuple [.agg (tok4 k t wd a).toArray, .bool ok].toArray ∧ w'.heap[b]? = some (scn s j fa fr) ∧ NxRel s i k t wd a ok j fa fr := by
 unfold NxPost at h
 split at h
 ·rename_i hle
  obtain ⟨h1, j, h2⟩ := h
  exact ⟨0, [], 0, 0, false, j, 0, 0, h1, h2, .inr (.inl ⟨rfl, hle, rfl, rfl⟩)⟩
 ·rename_i hlt
  split at h
  ·rename_i x hx
   obtain ⟨h1, h2⟩ := h
   exact ⟨_, _, _, _, true, _, 0, 0, h1, h2, .inl ⟨rfl, x, by omega, hx, rfl, rfl, rfl, rfl, rfl, rfl, rfl⟩⟩
  ·rename_i rule p hx
   obtain ⟨h1, j, h2⟩ := h
   exact ⟨0, [], 0, 0, false, j, _, _, h1, h2, .inr (.inr ⟨rfl, rule, p, by omega, hx, rfl, rfl⟩)⟩
/-- what 'Scan' hands back -/
def ScanPost (s : List UInt8) (w : World) (v : Value) (w' : World) : Prop :=
 Chg [] w w' ∧ ∃ oa cap, v = .tuple [.slice oa (scanRes s).1.length cap, .int .i64 ((scanRes s).2.1 : Int), .agg [.int .i64 ((scanRes s).2.2.1 : Int), .int .i64 ((scanRes s).2.2.2 : Int)].toArray].toArray ∧
  w'.ownsRow w.heap.size 118 4 (.slice oa (scanRes s).1.length cap) (scanRes s).1.length (toksL (scanRes s).1)
set_option maxHeartbeats 1000000 in
theorem scan_any (s : List UInt8) (w : World) : Ret Tryz.prog 75 [str s] w (ScanPost s w) := by
 refine ret_of [_] func75 rfl ntmps75 rfl ?_
 have st := St.init w []
 refine sr ?_
 iterate 2 refine ya ?_
 refine vc_e (e_al (l := [_, _]) st rfl rfl zeroValue29 rfl ?_)
 intro b4 w hb4 st
 refine et (vk2 0 4 (vc_seq (sr ?_)))
 refine ym ?_
 refine vy (y_lens rfl underlying9) ?_
 refine vy (y_gtr rfl rfl) ?_
 refine et (vk3 0 4 11 ?_)
 refine vif ?_ ?_
 ·intro hc11
  try simp only [dn] at hc11
  refine sr ?_
  refine vy (ybd (.agg #[_, _]) []) ?_
  iterate 2 refine ya ?_
  refine vc_e (ests st 0 [_, _] sizeOf29 ?_)
  intro w st; dsimp only [setNth, wr] at st
  refine et (vk3 2 3 4 (vc_ret (vq_then_ret ?_)))
  refine vq_ret3 st (.inl rfl) results75 (.tmp rfl) (.tmp rfl) (by exact .cell 0 rfl rfl isAgg29 sizeOf29) ?_
  refine ⟨_, rfl, ?_⟩
  have e : scanRes s = ([], 4, 0, 0) := by unfold scanRes; rw [if_pos (by omega)]
  refine ⟨st.chg, none, 0, ?_, ?_⟩
  ·rw [e]; rfl
  rw [e]; exact World.ownsRow_nil _ _ _ _
 intro hc11
 try simp only [dn] at hc11
 replace st := st.ownNil 118 4
 refine kt (vk2 0 4 (sr ?_))
 refine ym ?_
 refine vy (ybd (.agg #[_, _, _, _]) [(0, _)]) ?_
 refine vc_e (e_bx (l := [_, _, _, _]) st rfl rfl rfl rfl ?_)
 intro b15 w hb15 st
 refine ya ?_
 refine et (vk2 4 5 (sr ?_))
 refine ya ?_
 refine et (vk3 4 5 6 (vc_seq (vc_block ?_)))
 refine vc_loop (w0 := _) (M := _) (fun (x : List Tok × Nat × Option Addr × Nat) => [(4, .pointer (some ⟨b4, 0, none⟩)), (5, .pointer (some ⟨b15, 0, none⟩)), (6, .slice x.2.2.1 x.1.length x.2.2.2)]) (fun x => [.blk b15 (scn s x.2.1 0 0), .own (.slice x.2.2.1 x.1.length x.2.2.2) 118 4 x.1.length (toksL x.1), .blk b4 (.cells [.int .i64 0, .int .i64 0].toArray 29 (0, 0))]) (fun x _ => x.2.1 ≤ s.length ∧ x.1.length ≤ x.2.1 ∧ (front s).1 = x.1 ++ (scanA (s.drop x.2.1) x.2.1).1 ∧ (front s).2 = (scanA (s.drop x.2.1) x.2.1).2) (fun x => s.length - x.2.1) ([], 0, none, 0) ⟨rfl, rfl, rfl, trivial⟩ st ⟨by simp, by simp, by simp [front_eq], by simp [front_eq]⟩ ?_
 rintro ⟨l, i, oa, cap⟩ w ⟨hi, hli, hf1, hf2⟩ st
 dsimp only at *
 refine vc_block (sr ?_)
 refine ym ?_
 refine vc_e (e_call [_] rfl rfl call142 rfl (next_any b15 s i _ (st.res (i := 0) rfl) hi (by omega)) ?_)
 rintro _ w ⟨cw, hp⟩
 obtain ⟨k, t, wd, a, ok, j, fa, fr, rfl, hw, hrel⟩ := nx_flat hp
 replace st := st.turn (i := 0) (r' := .blk b15 _) rfl rfl rfl cw (.inr (by assumption)) hw
 dsimp only [setNth] at st
 refine ym ?_
 iterate 2 refine vy (y_ext rfl rfl) ?_
 refine vc_e (e_al (l := [_, _, _, _]) st rfl rfl zeroValue118 rfl ?_)
 intro b7 w hb7 st
 refine vc_e (ests st 0 [_, _, _, _] sizeOf118 ?_)
 intro w st; dsimp only [setNth, wr] at st
 refine ya ?_
 refine et (vk5 4 5 6 7 8 (vc_seq (sr ?_)))
 refine ym ?_
 refine vy (y_not rfl) ?_
 refine et (vk5 4 5 6 7 22 ?_)
 refine vif ?_ ?_
 ·intro hc22
  try simp only [dn] at hc22
  refine vc_exit (vq_then_exit (vq_block_other rfl (vq_then_exit (vq_block_exit (vq_then (vk3 4 5 6 (vc_seq (sr ?_))))))))
  refine ym ?_
  refine ynk ?_
  refine yfz 2 underlying178 sizeOf29 ?_
  refine vy (y_fa (k := 1) rfl underlying29 rfl rfl sizeOf3 rfl) ?_
  refine yl st 1 isAgg3 ?_
  refine vy (y_nei rfl rfl) ?_
  refine et (vk4 4 5 6 32 ?_)
  refine vif ?_ ?_
  ·intro hc32
   try simp only [dn] at hc32
   refine vc_seq ?_
   refine vdr Tryz.mixed [Yt 0, Yt 1, Yt 2, Yt 3, Yt 4, Yt 5, Nt 6] [.blk b15 (scn s j fa fr)] st ?_
   clear st; intro w st hS
   refine pm hS ?_
   refine pnk hS ?_
   refine pfz hS 2 underlying178 sizeOf29 ?_
   refine vp_take rfl rfl rfl hS (fun w st => y_lda (vs := [_, _]) st 0 rfl isAgg29 sizeOf29 rfl rfl) ?_
   iterate 2 refine vp_take rfl rfl rfl hS (fun w st => y_as rfl) ?_
   refine vp_do rfl (ests st 3 [_, _] sizeOf29 ?_)
   intro w st; dsimp only [setNth, wr] at st
   refine vp_next st.dr ?_; intro hS
   refine vp_end (vq_then (vk3 2 3 4 (vc_ret (vq_then_ret ?_))))
   refine vq_ret3 st (.inl rfl) results75 (.tmp rfl) (.tmp rfl) (by exact .cell 3 rfl rfl isAgg29 sizeOf29) ?_
   refine ⟨_, rfl, ?_⟩
   rcases hrel with ⟨h, _⟩ | ⟨_, _, _, h⟩ | ⟨_, rule, p, hlt, hx, rfl, rfl⟩
   ·simp [h] at hc22
   ·exact absurd h hc32
   ·have hsc := scanA_bad (r := s.drop i) (i := i) (by simp; omega) (by rw [List.drop_drop]; exact hx)
    have e : scanRes s = ([], 20, p, rule) := by unfold scanRes; rw [if_neg (by omega), hf2, hsc]
    refine ⟨st.chg, none, 0, ?_, ?_⟩
    ·rw [e]; rfl
    rw [e]; exact World.ownsRow_nil _ _ _ _
  intro hc32
  try simp only [dn] at hc32
  refine kt (vk2 4 6 (sr ?_))
  refine ym ?_
  refine vy (ybd (.agg #[_, _]) []) ?_
  iterate 2 refine ya ?_
  refine vc_e (ests st 3 [_, _] sizeOf29 ?_)
  intro w st; dsimp only [setNth, wr] at st
  refine et (vk3 2 3 4 (vc_ret ?_))
  refine vq_ret3 st (.inl rfl) results75 (.tmp rfl) (.tmp rfl) (by exact .cell 3 rfl rfl isAgg29 sizeOf29) ?_
  refine ⟨_, rfl, ?_⟩
  rcases hrel with ⟨h, _⟩ | ⟨_, hle, _, h⟩ | ⟨_, rule, p, hlt, hx, rfl, rfl⟩
  ·simp [h] at hc22
  ·have hsc := scanA_end (r := s.drop i) (i := i) (by simp; omega)
   have e : scanRes s = (l, 0, 0, 0) := by unfold scanRes; rw [if_neg (by omega), hf2, hsc, hf1, hsc]; simp
   refine ⟨st.chg, oa, cap, ?_, ?_⟩
   ·rw [e]; rfl
   rw [e]; exact st.res (i := 2) rfl
  ·have := bad_rule hx; omega
 intro hc22
 try simp only [dn] at hc22
 refine kt (vk4 4 5 6 7 (vc_region ?_))
 refine ym ?_
 refine yla st 0 [_, _, _, _] isAgg118 sizeOf118 ?_
 refine vc_e (e_bs1 (l := [_, _, _, _]) st rfl rfl rfl rfl underlying89 sizeOf118 rfl rfl rfl zeroValue118 ?_)
 intro b25 w hb25 st
 refine vc_e (e_app (bytes := 40) st 3 0 rfl rfl rfl rfl rfl rfl underlying89 Tryz.info118 rfl rfl rfl rfl rfl (by simp) rfl rfl (by unfold maxLen; omega) (by omega) ?_)
 intro oa26 cap26 w st; dsimp only [setNth] at st
 refine ya ?_
 refine vc_end (vq_block ?_)
 rcases hrel with ⟨_, x, hlt, hx, rfl, rfl, rfl, rfl, rfl, rfl, rfl⟩ | ⟨h, _⟩ | ⟨h, _⟩
 ·have hx1 := tok_len hx
  have hxl : x.text.length ≤ s.length - (i + skip (List.drop i s)) := by have h := congrArg List.length hx1.2.1; simp at h; omega
  have hsc := scanA_tok (r := s.drop i) (i := i) (by simp; omega) (by rw [List.drop_drop]; exact hx)
  rw [List.drop_drop, ← Nat.add_assoc] at hsc
  refine vq_again (l ++ [x], i + skip (List.drop i s) + x.text.length, oa26, cap26) ⟨rfl, rfl, by simp only [List.length_append, List.length_cons, List.length_nil]; rfl, trivial⟩ ?_ ⟨by dsimp only; omega, by simp; omega, ?_, ?_⟩ (by dsimp only; omega)
  ·simp only [List.length_append, List.length_cons, List.length_nil, toksL_snoc]
   exact st.dr
  ·rw [hf1, hsc]; simp
  rw [hf2, hsc]
 ·simp [h] at hc22
 ·simp [h] at hc22
end Go.Proofs.YtnmhlpnapgojjaaGreatDoor


/- The tokens of a text: how many, and of what kinds. -/
namespace ParS
open Sx LexS
theorem numV_le {l : List UInt8} {n : Nat} (h : numV l = some n) : n ≤ 9223372036854775807 := by
  unfold numV at h
  split at h
  · cases h
  · rename_i hc
    cases h
    rw [not_or, not_or, not_or] at hc
    omega
theorem scan_ok : ∀ (T : List Tok) (r : List UInt8) (i : Nat) (f : Option (Nat × Nat)), scanA r i = (T, f) → T.length ≤ r.length ∧ ∀ t ∈ T, (t.kind = 1 → isName t.text = true) ∧ t.word ≤ 9223372036854775807 ∧ t.at_ ≤ i + r.length
  | [], r, i, f, h => ⟨Nat.zero_le _, by simp⟩
  | t :: T, r, i, f, h => by
    obtain ⟨h1, h2, h3⟩ := scan_inv h
    obtain ⟨h4, h5, h6⟩ := tok_len h2
    obtain ⟨h7, h8⟩ := scan_ok T _ _ _ h3
    rw [List.length_drop] at h7 h8
    have h9 : t.text.length ≤ r.length - skip r := by
      have := congrArg List.length h5
      rw [List.length_take, List.length_drop] at this
      omega
    refine ⟨by simp only [List.length_cons]; omega, fun x hx => ?_⟩
    rcases List.mem_cons.1 hx with rfl | hx
    · refine ⟨fun hk => ?_, ?_, by omega⟩
      · rcases tok_right h2 with h | h | h | h
        · exact h.2.1
        · omega
        · omega
        · omega
      · rcases tok_right h2 with h | h | h | h
        · omega
        · omega
        · exact numV_le h.2
        · omega
    · obtain ⟨a, b, c⟩ := h8 x hx
      exact ⟨a, b, by omega⟩
theorem front_ok {s : List UInt8} {T : List Tok} {f : Option (Nat × Nat)} (h : front s = (T, f)) : T.length ≤ s.length ∧ ∀ t ∈ T, (t.kind = 1 → isName t.text = true) ∧ t.word ≤ 9223372036854775807 ∧ t.at_ ≤ s.length := by
  rw [front_eq] at h
  have := scan_ok T s 0 f h
  simpa using this
end ParS

