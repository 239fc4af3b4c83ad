/- A part of the proof: contracts of functions and plain laws; each theorem says its own conditions. -/
import Derived.Test.YtjoepkpdanolkaaGreatDoorTopReckonedK2
import Derived.Test.YtjoepkpdanolkaaGreatDoorTopReckonedTryzShelfP
import Derived.Test.YtjoepkpdanolkaaGreatDoorTopReckonedK1
import Derived.Test.YtjoepkpdanolkaaGreatDoorTopReckonedK3
import Derived.Test.YtjoepkpdanolkaaGreatDoorTopReckonedK11
import Derived.Test.YtjoepkpdanolkaaGreatDoorTopReckonedK0
set_option linter.unusedVariables false
set_option linter.unusedSimpArgs false
namespace Go.Proofs.YtjoepkpdanolkaaGreatDoor
open Go.RowKit Sx LexS _root_.Go.Proofs.Tryz
/-- the scanner's block -/
abbrev scn (s : List UInt8) (i : Int) (fa fr : Int) : Obj := .cells [str s, .int .i64 i, .int .i64 fa, .int .i64 fr].toArray 122 (0, 0)
theorem idxByte_any (l : List UInt8) (w : World) : Ret Tryz.prog 117 [str l, .int .u8 10] w fun v w' => v = .int .i64 (Lib.indexByte l 10) ∧ w' = w :=
 (Tryz.strings_IndexByte ⟨l.toArray⟩ 10 w).mono fun e w' ⟨he, hw⟩ => ⟨_, he, rfl, hw⟩
theorem hasPrefix_eq (l : List UInt8) : Lib.hasPrefix l [47, 47] = isRem l := by
 match l with
 | [] => rfl
 | [a] => simp [Lib.hasPrefix, isRem, List.isPrefixOf]
 | a :: b :: r =>
  have h : Lib.hasPrefix (a :: b :: r) [47, 47] = ((47 == a) && (47 == b)) := by simp [Lib.hasPrefix, List.isPrefixOf]
  rw [h, isRem]
  apply Bool.eq_iff_iff.2
  simp only [Bool.and_eq_true, beq_iff_eq, decide_eq_true_eq]
  exact ⟨fun ⟨h1, h2⟩ => ⟨h1.symm, h2.symm⟩, fun ⟨h1, h2⟩ => ⟨h1.symm, h2.symm⟩⟩
theorem hasRem_any (l : List UInt8) (w : World) : Ret Tryz.prog 116 [str l, str [47, 47]] w fun v w' => v = .bool (isRem l) ∧ w' = w :=
 (Tryz.strings_HasPrefix ⟨l.toArray⟩ ⟨[47, 47].toArray⟩ w).mono fun e w' ⟨he, hw⟩ => ⟨_, he, by rw [← hasPrefix_eq], hw⟩
theorem drop_cons {s : List UInt8} {j : Nat} (h : j < s.length) : s.drop j = s.getD j 0 :: s.drop (j + 1) := by
 rw [List.drop_eq_getElem_cons h]; simp [List.getD, h]
theorem over_any (b : Nat) (s : List UInt8) (i : Nat) (fa fr : Int) (w : World) (hb : w.heap[b]? = some (scn s i fa fr)) (hi : i ≤ s.length) (hs : s.length ≤ 3000000) :
    Ret Tryz.prog 81 [.pointer (some ⟨b, 0, none⟩)] w fun v w' => v = .tuple #[] ∧ Chg [b] w w' ∧ w'.heap[b]? = some (scn s ((i + skip (s.drop i) : Nat) : Int) fa fr) := by
 refine ret_of [_] Tryz.func81 rfl Tryz.ntmps81 rfl ?_;have st := St.init w [b];replace st := St.of1 [b] hb;refine a1 ?_;refine vc_loop (w0 := _) (M := _) (fun _ => [(0, .pointer (some ⟨b, 0, none⟩))]) (fun (j : Nat) => [.blk b (scn s j fa fr)]) (fun j _ => j ≤ s.length ∧ j + skip (s.drop j) = i + skip (s.drop i)) (fun j => s.length - j) i ⟨rfl, trivial⟩ st ⟨hi, rfl⟩ ?_;rintro j w ⟨hj, he⟩ st;refine a2 ?_;refine vdr0 Tryz.mixed [Yt 0, Yt 1, Yt 2, Yt 3, Yt 4, Yt 5, Yt 6, Yt 7, Yt 8, Yt 9] st ?_;clear st; intro w st hS;refine pm hS ?_;refine pnk hS ?_;refine pfz hS 1 Tryz.underlying122 Tryz.sizeOf3 ?_;refine pld hS 0 Tryz.isAgg3 ?_;refine pm hS ?_;refine pnk hS ?_;refine pf0 hS Tryz.underlying122 Tryz.sizeOf9 ?_;refine pld hS 0 Tryz.isAgg9 ?_;refine vp_take rfl rfl rfl hS (fun w st => y_lens rfl Tryz.underlying9) ?_;refine vp_take rfl rfl rfl hS (fun w st => y_lss rfl rfl) ?_;refine vp_end (vq_then ?_);refine vif ?_ ?_
 ·intro hc12;(try simp only [dn] at hc12);have hd := drop_cons (s := s) (j := j) (by omega);refine a5 ?_;refine vdr0 Tryz.mixed [Yt 0, Yt 1, Yt 2, Yt 3, Yt 4, Yt 5, Yt 6, Yt 7, Yt 8, Nt 9, Yt 10] st ?_;clear st; intro w st hS;refine pm hS ?_;refine pnk hS ?_;refine pf0 hS Tryz.underlying122 Tryz.sizeOf9 ?_;refine pld hS 0 Tryz.isAgg9 ?_;refine pm hS ?_;refine pnk hS ?_;refine pfz hS 1 Tryz.underlying122 Tryz.sizeOf3 ?_;refine pld hS 0 Tryz.isAgg3 ?_;refine vp_take rfl rfl rfl hS (fun w st => y_ixs (k := _) rfl rfl Tryz.underlying9 rfl (by omega)) ?_;refine vp_do rfl (e_call [_] rfl rfl Tryz.call115 rfl (blank_any _ _) ?_);rintro _ _ ⟨rfl, rfl⟩;refine vp_next (by exact st) ?_; intro hS;refine vp_take rfl rfl rfl hS (fun w st => y_as rfl) ?_;refine vp_end (vq_then ?_);refine vif ?_ ?_;intro hc13;(try simp only [dn] at hc13);refine a3 ?_;refine yfz 1 Tryz.underlying122 Tryz.sizeOf3 ?_;refine yl st 0 Tryz.isAgg3 ?_;refine vy (y_add rfl rfl rfl (by omega) (by omega)) ?_;refine a1 ?_;refine yfz 1 Tryz.underlying122 Tryz.sizeOf3 ?_
  first
  | refine vc_e (est st 0 Tryz.sizeOf3 ?_)
  intro w st; dsimp only [setNth, wr] at st;refine a3 ?_;refine vq_again (j + 1)  ⟨rfl, trivial⟩ st ?_ ?_;exact ⟨by omega, by rw [hd, skip_blank hc13] at he; omega⟩;omega;intro hc13;(try simp only [dn] at hc13);refine a1 ?_;refine vdr0 Tryz.mixed [Yt 0, Yt 1, Yt 2, Yt 3, Yt 4, Yt 5, Yt 6, Yt 7, Yt 8, Nt 9, Yt 10] st ?_;clear st; intro w st hS;refine pm hS ?_;refine pnk hS ?_;refine pf0 hS Tryz.underlying122 Tryz.sizeOf9 ?_;refine pld hS 0 Tryz.isAgg9 ?_;refine pm hS ?_;refine pnk hS ?_;refine pfz hS 1 Tryz.underlying122 Tryz.sizeOf3 ?_;refine pld hS 0 Tryz.isAgg3 ?_;refine vp_take rfl rfl rfl hS (fun w st => y_slf (i := _) rfl rfl Tryz.underlying9 rfl (by omega)) ?_;refine vp_do rfl (e_call [_, _] rfl rfl Tryz.call116 rfl (hasRem_any _ _) ?_);rintro _ _ ⟨rfl, rfl⟩;refine vp_next (by exact st) ?_; intro hS;refine vp_take rfl rfl rfl hS (fun w st => y_as rfl) ?_;refine vp_end (vq_then ?_);refine vif ?_ ?_
  ·intro hc31;(try simp only [dn] at hc31);refine a1 ?_;refine vdr0 Tryz.mixed [Yt 0, Yt 1, Yt 2, Yt 3, Yt 4, Yt 5, Yt 6, Yt 7, Yt 8, Nt 9, Yt 10] st ?_;clear st; intro w st hS;refine pm hS ?_;refine pnk hS ?_;refine pf0 hS Tryz.underlying122 Tryz.sizeOf9 ?_;refine pld hS 0 Tryz.isAgg9 ?_;refine pm hS ?_;refine pnk hS ?_;refine pfz hS 1 Tryz.underlying122 Tryz.sizeOf3 ?_;refine pld hS 0 Tryz.isAgg3 ?_;refine vp_take rfl rfl rfl hS (fun w st => y_slf (i := _) rfl rfl Tryz.underlying9 rfl (by omega)) ?_;refine vp_do rfl (e_call [_, _] rfl rfl Tryz.call117 rfl (idxByte_any _ _) ?_);rintro _ _ ⟨rfl, rfl⟩;have hle := toLf_le (s.drop j);simp only [List.length_drop] at hle;have hn := indexByte_lf (s.drop j);simp only [List.length_drop] at hn;refine vp_next (by exact st) ?_; intro hS;refine vp_take rfl rfl rfl hS (fun w st => y_as rfl) ?_;refine vp_end (vq_then (vc_seq (sr ?_)));refine a4 ?_;refine vif ?_ ?_;intro hc53;(try simp only [dn] at hc53);refine vdr0 Tryz.mixed [Yt 0, Yt 1, Yt 2, Yt 3, Yt 4, Yt 5, Yt 6, Yt 7, Yt 8, Yt 9, Yt 10] st ?_;clear st; intro w st hS;refine pm hS ?_;refine pnk hS ?_;refine pf0 hS Tryz.underlying122 Tryz.sizeOf9 ?_;refine pld hS 0 Tryz.isAgg9 ?_;refine vp_take rfl rfl rfl hS (fun w st => y_lens rfl Tryz.underlying9) ?_;refine pm hS ?_;refine pnk hS ?_;refine pfz hS 1 Tryz.underlying122 Tryz.sizeOf3 ?_;refine pld hS 0 Tryz.isAgg3 ?_;refine vp_take rfl rfl rfl hS (fun w st => y_sub rfl rfl rfl (by omega) (by omega)) ?_;refine vp_take rfl rfl rfl hS (fun w st => y_as rfl) ?_;refine vp_end ?_
   rotate_left
   intro hc53;(try simp only [dn] at hc53);refine a1 ?_
   all_goals
    refine a4 ?_;refine yfz 1 Tryz.underlying122 Tryz.sizeOf3 ?_;refine yl st 0 Tryz.isAgg3 ?_;refine a1 ?_;refine vy (yin ((j + toLf (List.drop j s) : Nat) : Int)) ?_;refine a1 ?_;refine yfz 1 Tryz.underlying122 Tryz.sizeOf3 ?_
    first
    | refine vc_e (est st 0 Tryz.sizeOf3 ?_)
    intro w st; dsimp only [setNth, wr] at st;refine a3 ?_;refine vq_again (j + toLf (List.drop j s))  ⟨rfl, trivial⟩ st ?_ ?_;exact ⟨by omega, by rw [skip_rem hc31, List.drop_drop] at he; omega⟩;have := toLf_pos hc31; omega
  intro hc31;(try simp only [dn] at hc31);refine a5 ?_;refine vq_ret0 (.inl rfl) Tryz.results81 ?_;refine ⟨_, rfl, ?_⟩;exact ⟨rfl, st.chg, by have h := st.res (i := 0) rfl; rw [hd] at hc31; rw [hd, skip_other hc13 hc31] at he; rw [show i + skip (List.drop i s) = j by omega]; exact h⟩
 intro hc12;(try simp only [dn] at hc12);obtain rfl : j = s.length := by omega
 simp only [List.drop_length, skip_nil] at he;refine a4 ?_;refine vq_ret0 (.inr rfl) Tryz.results81 ?_;refine ⟨_, rfl, ?_⟩;exact ⟨rfl, st.chg, by have h := st.res (i := 0) rfl; rw [show i + skip (List.drop i s) = s.length by omega]; exact h⟩
end Go.Proofs.YtjoepkpdanolkaaGreatDoor


namespace Go.Proofs.YtjoepkpdanolkaaGreatDoor
open Go.RowKit Sx LexS _root_.Go.Proofs.Tryz
abbrev tokL (t : Tok) : List Value := [.int .u8 (t.kind : Int), str t.text, .int .i64 (t.word : Int), .int .i64 (t.at_ : Int)]
abbrev zeroL : List Value := [.int .u8 0, str [], .int .i64 0, .int .i64 0]
/-- what a reader of tokens leaves -/
def RdPost (b : Nat) (s : List UInt8) (i : Nat) (fa fr : Int) (res : TokR) (v : Value) (w' : World) : Prop := match res with
 | .tok t => v = .agg (tokL t).toArray ∧ w'.heap[b]? = some (scn s ((i + t.text.length : Nat) : Int) fa fr)
 | .bad rule p => v = .agg zeroL.toArray ∧ ∃ j : Int, w'.heap[b]? = some (scn s j (p : Int) (rule : Int))
theorem tokAt_word {s : List UInt8} {i : Nat} (h : i < s.length) (hc : isLetter (s.getD i 0) = true) : tokAt (s.drop i) i =
    if isWord ((s.drop i).takeWhile isIdent) then .tok ⟨2, (s.drop i).takeWhile isIdent, 0, i⟩ else if 32 < ((s.drop i).takeWhile isIdent).length then .bad 2 (i + 32) else .tok ⟨1, (s.drop i).takeWhile isIdent, 0, i⟩ := by
 rw [drop_cons h]; simp only [tokAt, hc, if_true]
theorem tw_step {p : UInt8 → Bool} {s : List UInt8} {i j : Nat} (hij : i ≤ j) (hj : j < s.length) (hp : p (s.getD j 0) = true)
    (h : (s.drop i).takeWhile p = (s.drop i).take (j - i) ++ (s.drop j).takeWhile p) : (s.drop i).takeWhile p = (s.drop i).take (j + 1 - i) ++ (s.drop (j + 1)).takeWhile p := by
 rw [h, drop_cons hj, List.takeWhile_cons, if_pos hp, show j + 1 - i = (j - i) + 1 from by omega, List.take_succ_eq_append_getElem (by simp; omega)];simp [List.getD, hj, show i + (j - i) = j from by omega]
theorem tw_end {p : UInt8 → Bool} {s : List UInt8} {i j : Nat} (hp : j < s.length → p (s.getD j 0) = false)
    (h : (s.drop i).takeWhile p = (s.drop i).take (j - i) ++ (s.drop j).takeWhile p) : (s.drop i).takeWhile p = (s.drop i).take (j - i) := by
 by_cases hj : j < s.length
 rw [h, drop_cons hj, List.takeWhile_cons, hp hj]; simp;have e : s.drop j = [] := List.drop_eq_nil_of_le (by omega);rw [h, e]; simp
theorem isIdent_of (c : UInt8) (h : isLetter c = true ∨ isDigit c = true) : isIdent c = true := by unfold isIdent; rcases h with h | h <;> simp [h]
theorem isIdent_no (c : UInt8) (h : isLetter c = false) (h' : isDigit c = false) : isIdent c = false := by unfold isIdent; simp [h, h']

theorem wrong_any (b : Nat) (s : List UInt8) (i fa fr at_ rule : Int) (w : World) (hb : w.heap[b]? = some (scn s i fa fr)) :
    Ret Tryz.prog 119 [.pointer (some ⟨b, 0, none⟩), .int .i64 at_, .int .i64 rule] w fun v w' => v = .agg zeroL.toArray ∧ Chg [b] w w' ∧ w'.heap[b]? = some (scn s i at_ rule) := by
 refine ret_of [_, _, _] Tryz.func119 rfl Tryz.ntmps119 rfl ?_;have st := St.init w [b];replace st := St.of1 [b] hb;refine a2 ?_;refine vc_e (e_al (l := [_, _, _, _]) st rfl rfl Tryz.zeroValue65 rfl ?_);intro b6 w hb6 st;refine a7 ?_;refine vy (ybd (.agg #[_, _]) [(0, _), (1, _)]) ?_;refine a1 ?_;refine yfz 2 Tryz.underlying122 Tryz.sizeOf30 ?_;refine vc_e (ests st 1 [_, _] Tryz.sizeOf30 ?_);intro w st;refine a4 ?_;refine vy (ybd (.agg #[_, _, _, _]) []) ?_;refine vc_e (ests st 0 [_, _, _, _] Tryz.sizeOf65 ?_);intro w st;refine a3 ?_;refine vq_ret1 st (.inl rfl) Tryz.results119 (by exact .cell 0 rfl rfl Tryz.isAgg65 Tryz.sizeOf65) ?_;refine ⟨_, rfl, ?_⟩;exact ⟨rfl, st.chg, st.res (i := 1) rfl⟩
theorem word_rd (b : Nat) (s : List UInt8) (i : Nat) (fa fr : Int) (w : World) (hb : w.heap[b]? = some (scn s i fa fr)) (hi : i < s.length) (hs : s.length ≤ 3000000) (hc : isLetter (s.getD i 0) = true) :
    Ret Tryz.prog 83 [.pointer (some ⟨b, 0, none⟩)] w fun v w' => Chg [b] w w' ∧ RdPost b s i fa fr (tokAt (s.drop i) i) v w' := by
 refine ret_of [_] Tryz.func83 rfl Tryz.ntmps83 rfl ?_;have st := St.init w [b];replace st := St.of1 [b] hb;refine a2 ?_;refine vc_e (e_al (l := [_, _, _, _]) st rfl rfl Tryz.zeroValue65 rfl ?_);intro b2 w hb2 st;refine a6 ?_;refine yfz 1 Tryz.underlying122 Tryz.sizeOf3 ?_;refine yl st 1 Tryz.isAgg3 ?_;refine a5 ?_;refine vc_loop (w0 := _) (M := _) (fun _ => [(0, .pointer (some ⟨b, 0, none⟩)), (2, .pointer (some ⟨b2, 0, none⟩)), (3, .int .i64 (i : Int))]) (fun (j : Nat) => [.blk b2 (.cells zeroL.toArray 65 (0, 0)), .blk b (scn s j fa fr)]) (fun j _ => i ≤ j ∧ j ≤ s.length ∧ (s.drop i).takeWhile isIdent = (s.drop i).take (j - i) ++ (s.drop j).takeWhile isIdent) (fun j => s.length - j) i ⟨rfl, rfl, rfl, trivial⟩ st ⟨by omega, by omega, by simp⟩ ?_;rintro j w ⟨hij, hj, he⟩ st;refine a2 ?_;refine vdr0 Tryz.mixed [Yt 0, Yt 1, Yt 2, Yt 3, Yt 4, Yt 5, Yt 6, Yt 7, Yt 8, Yt 9, Yt 10, Yt 11, Yt 12, Yt 13, Yt 14, Yt 15, Yt 16, Yt 17, Yt 18, Yt 19, Nt 20, Yt 21, Yt 22, Yt 23, Yt 24, Yt 25, Yt 26, Yt 27, Yt 28, Yt 29, Yt 30, Nt 31, Yt 32, Yt 33] st ?_;clear st; intro w st hS;refine pm hS ?_;refine pnk hS ?_;refine pfz hS 1 Tryz.underlying122 Tryz.sizeOf3 ?_;refine pld hS 1 Tryz.isAgg3 ?_;refine pm hS ?_;refine pnk hS ?_;refine pf0 hS Tryz.underlying122 Tryz.sizeOf9 ?_;refine pld hS 1 Tryz.isAgg9 ?_;refine vp_take rfl rfl rfl hS (fun w st => y_lens rfl Tryz.underlying9) ?_;refine vp_take rfl rfl rfl hS (fun w st => y_lss rfl rfl) ?_;refine vp_part rfl rfl rfl hS rfl ?_ ?_
 ·intro hg19;(try simp only [dn] at hg19);refine pm hS ?_;refine pnk hS ?_;refine pf0 hS Tryz.underlying122 Tryz.sizeOf9 ?_;refine pld hS 1 Tryz.isAgg9 ?_;refine pm hS ?_;refine pnk hS ?_;refine pfz hS 1 Tryz.underlying122 Tryz.sizeOf3 ?_;refine pld hS 1 Tryz.isAgg3 ?_;refine vp_take rfl rfl rfl hS (fun w st => y_ixs (k := _) rfl rfl Tryz.underlying9 rfl (by omega)) ?_;refine vp_do rfl (e_call [_] rfl rfl Tryz.call85 rfl (letter_any _ _) ?_);rintro _ _ ⟨rfl, rfl⟩;refine vp_next (by exact st) ?_; intro hS;refine vp_part rfl rfl rfl hS rfl ?_ ?_;intro hg30;(try simp only [dn] at hg30);(iterate 9 refine vp_skip rfl rfl rfl hS ?_);refine vp_do rfl (e_skip rfl rfl (vp_next hS (fun hS => ?_)));(iterate 2 refine vp_take rfl rfl rfl hS (fun w st => y_pickt rfl rfl) ?_);refine vp_end (vq_then ?_);refine a7 ?_;refine yfz 1 Tryz.underlying122 Tryz.sizeOf3 ?_;refine yl st 1 Tryz.isAgg3 ?_;refine vy (y_add rfl rfl rfl (by omega) (by omega)) ?_;refine a1 ?_;refine yfz 1 Tryz.underlying122 Tryz.sizeOf3 ?_;refine vc_e (est st 1 Tryz.sizeOf3 ?_);intro w st; dsimp only [setNth, wr] at st;refine a2 ?_;refine vq_again (j + 1)  ⟨rfl, rfl, rfl, trivial⟩ st ?_ ?_;exact ⟨by omega, by omega, tw_step hij (by omega) (isIdent_of _ (by (left; assumption))) he⟩;omega;intro hg30;(try simp only [dn] at hg30);refine pm hS ?_;refine pnk hS ?_;refine pf0 hS Tryz.underlying122 Tryz.sizeOf9 ?_;refine pld hS 1 Tryz.isAgg9 ?_;refine pm hS ?_;refine pnk hS ?_;refine pfz hS 1 Tryz.underlying122 Tryz.sizeOf3 ?_;refine pld hS 1 Tryz.isAgg3 ?_;refine vp_take rfl rfl rfl hS (fun w st => y_ixs (k := _) rfl rfl Tryz.underlying9 rfl (by omega)) ?_;refine vp_do rfl (e_call [_] rfl rfl Tryz.call86 rfl (digit_any _ _) ?_);rintro _ _ ⟨rfl, rfl⟩;refine vp_next (by exact st) ?_; intro hS;refine vp_take rfl rfl rfl hS (fun w st => y_pickf rfl rfl) ?_;refine vp_take rfl rfl rfl hS (fun w st => y_pickt rfl rfl) ?_;refine vp_end (vq_then ?_);refine vif ?_ ?_;intro hc42;(try simp only [dn] at hc42);refine a6 ?_;refine yfz 1 Tryz.underlying122 Tryz.sizeOf3 ?_;refine yl st 1 Tryz.isAgg3 ?_;refine vy (y_add rfl rfl rfl (by omega) (by omega)) ?_;refine a1 ?_;refine yfz 1 Tryz.underlying122 Tryz.sizeOf3 ?_;refine vc_e (est st 1 Tryz.sizeOf3 ?_);intro w st; dsimp only [setNth, wr] at st;refine a2 ?_;refine vq_again (j + 1)  ⟨rfl, rfl, rfl, trivial⟩ st ?_ ?_;exact ⟨by omega, by omega, tw_step hij (by omega) (isIdent_of _ (by (right; assumption))) he⟩;omega;intro hc42;(try simp only [dn] at hc42);have hT := tw_end (fun _ => isIdent_no _ (by assumption) (by assumption)) he;refine a6 ?_;refine vdr Tryz.mixed [Yt 0, Yt 1, Yt 2, Yt 3, Yt 4, Yt 5, Yt 6, Yt 7, Yt 8, Yt 9, Yt 10, Yt 11, Nt 12, Nt 13] [.blk b (scn s j fa fr)] st ?_;clear st; intro w st hS;refine pm hS ?_;refine pnk hS ?_;refine pf0 hS Tryz.underlying122 Tryz.sizeOf9 ?_;refine pld hS 0 Tryz.isAgg9 ?_;(iterate 2 refine pm hS ?_);refine pnk hS ?_;refine pfz hS 1 Tryz.underlying122 Tryz.sizeOf3 ?_;refine pld hS 0 Tryz.isAgg3 ?_;refine vp_take rfl rfl rfl hS (fun w st => y_sls (i := _) (j := _) rfl rfl rfl Tryz.underlying9 rfl rfl (by omega) (by omega)) ?_;refine pm hS ?_
  refine vp_take rfl rfl rfl hS (fun w st => ybd (.agg #[_, _, _, _]) [(0, _), (1, _), (3, _)]) ?_;refine vp_do rfl (e_al (l := [_, _, _, _]) st rfl rfl Tryz.zeroValue65 rfl ?_);intro b4 w hb4 st;refine vp_next st.dr ?_; intro hS;refine vp_do rfl (ests st 0 [_, _, _, _] Tryz.sizeOf65 ?_);intro w st; dsimp only [setNth, wr] at st;refine vp_next st.dr ?_; intro hS;refine vp_end (vq_then (vc_seq (sr ?_)));refine yfz 1 Tryz.underlying65 Tryz.sizeOf9 ?_;refine yl st 0 Tryz.isAgg9 ?_;refine vc_e (e_call [_] rfl rfl Tryz.call89 rfl (word_any _ _) ?_);rintro _ _ ⟨rfl, rfl⟩;refine a2 ?_;refine vif ?_ ?_;intro hc64;(try simp only [dn] at hc64);refine a1 ?_;refine vy (y_fa0 rfl Tryz.underlying65 rfl rfl Tryz.sizeOf63 rfl) ?_;refine vc_e (est st 0 Tryz.sizeOf63 ?_);intro w st; dsimp only [setNth, wr] at st;refine a4 ?_;refine yla st 0 [_, _, _, _] Tryz.isAgg65 Tryz.sizeOf65 ?_;refine vc_e (ests st 1 [_, _, _, _] Tryz.sizeOf65 ?_);intro w st; dsimp only [setNth, wr] at st;refine a3 ?_
  rotate_left
  focus
   intro hc64;(try simp only [dn] at hc64);refine a2 ?_;refine yfz 1 Tryz.underlying65 Tryz.sizeOf9 ?_;refine yl st 0 Tryz.isAgg9 ?_;refine vy (y_lens rfl Tryz.underlying9) ?_;refine a3 ?_;refine vif ?_ ?_;intro hc69;(try simp only [dn] at hc69);refine a4 ?_;refine vy (y_add rfl rfl rfl (by omega) (by omega)) ?_;refine vc_e (e_call [_, _, _] rfl rfl Tryz.call119 rfl (wrong_any b s _ _ _ _ _ _ (st.res (i := 2) rfl)) ?_);rintro _ w ⟨rfl, cw, hw⟩;replace st := st.turn (i := 2) (r' := .blk b _) rfl rfl rfl cw (.inl (by simp)) hw;dsimp only [setNth] at st;refine vc_e (ests st 1 [_, _, _, _] Tryz.sizeOf65 ?_);intro w st; dsimp only [setNth, wr] at st;refine a4 ?_
   rotate_left
   intro hc69;(try simp only [dn] at hc69);refine a4 ?_;refine yla st 0 [_, _, _, _] Tryz.isAgg65 Tryz.sizeOf65 ?_;refine vc_e (ests st 1 [_, _, _, _] Tryz.sizeOf65 ?_);intro w st; dsimp only [setNth, wr] at st;refine a3 ?_
  all_goals
   refine vq_ret1 st (.inl rfl) Tryz.results83 (by exact .cell 1 rfl rfl Tryz.isAgg65 Tryz.sizeOf65) ?_;refine ⟨_, rfl, ?_⟩;have hlen : (List.take (j - i) (List.drop i s)).length = j - i := by simp; omega
   refine ⟨st.chg, ?_⟩;rw [tokAt_word hi hc, hT]
   first
   | (rw [if_pos hc64]; exact ⟨rfl, by dsimp only; rw [hlen, show i + (j - i) = j from by omega]; exact st.res (i := 2) rfl⟩)
   | (rw [if_neg (by rw [hc64]; simp), if_pos (by omega)]; exact ⟨rfl, _, st.res (i := 2) rfl⟩)
   | (rw [if_neg (by rw [hc64]; simp), if_neg (by omega)]; exact ⟨rfl, by dsimp only; rw [hlen, show i + (j - i) = j from by omega]; exact st.res (i := 2) rfl⟩)
 intro hg19;(try simp only [dn] at hg19);have hT := tw_end (fun h => absurd h (by omega)) he;(iterate 9 refine vp_skip rfl rfl rfl hS ?_);refine vp_do rfl (e_skip rfl rfl (vp_next hS (fun hS => ?_)));(iterate 10 refine vp_skip rfl rfl rfl hS ?_);refine vp_do rfl (e_skip rfl rfl (vp_next hS (fun hS => ?_)));refine vp_skip rfl rfl rfl hS ?_;refine vp_take rfl rfl rfl hS (fun w st => y_pickf rfl rfl) ?_;refine vp_end (vq_then ?_);refine a7 ?_;refine vdr Tryz.mixed [Yt 0, Yt 1, Yt 2, Yt 3, Yt 4, Yt 5, Yt 6, Yt 7, Yt 8, Yt 9, Yt 10, Yt 11, Nt 12, Nt 13] [.blk b (scn s j fa fr)] st ?_;clear st; intro w st hS;refine pm hS ?_;refine pnk hS ?_;refine pf0 hS Tryz.underlying122 Tryz.sizeOf9 ?_;refine pld hS 0 Tryz.isAgg9 ?_;(iterate 2 refine pm hS ?_);refine pnk hS ?_;refine pfz hS 1 Tryz.underlying122 Tryz.sizeOf3 ?_;refine pld hS 0 Tryz.isAgg3 ?_;refine vp_take rfl rfl rfl hS (fun w st => y_sls (i := _) (j := _) rfl rfl rfl Tryz.underlying9 rfl rfl (by omega) (by omega)) ?_;refine pm hS ?_;refine vp_take rfl rfl rfl hS (fun w st => ybd (.agg #[_, _, _, _]) [(0, _), (1, _), (3, _)]) ?_;refine vp_do rfl (e_al (l := [_, _, _, _]) st rfl rfl Tryz.zeroValue65 rfl ?_);intro b4 w hb4 st;refine vp_next st.dr ?_; intro hS;refine vp_do rfl (ests st 0 [_, _, _, _] Tryz.sizeOf65 ?_);intro w st; dsimp only [setNth, wr] at st;refine vp_next st.dr ?_; intro hS;refine vp_end (vq_then (vc_seq (sr ?_)));refine yfz 1 Tryz.underlying65 Tryz.sizeOf9 ?_;refine yl st 0 Tryz.isAgg9 ?_;refine vc_e (e_call [_] rfl rfl Tryz.call89 rfl (word_any _ _) ?_);rintro _ _ ⟨rfl, rfl⟩;refine a2 ?_;refine vif ?_ ?_;intro hc64;(try simp only [dn] at hc64);refine a1 ?_;refine vy (y_fa0 rfl Tryz.underlying65 rfl rfl Tryz.sizeOf63 rfl) ?_;refine vc_e (est st 0 Tryz.sizeOf63 ?_);intro w st; dsimp only [setNth, wr] at st;refine a4 ?_;refine yla st 0 [_, _, _, _] Tryz.isAgg65 Tryz.sizeOf65 ?_;refine vc_e (ests st 1 [_, _, _, _] Tryz.sizeOf65 ?_);intro w st; dsimp only [setNth, wr] at st;refine a3 ?_
 rotate_left
 focus
  intro hc64;(try simp only [dn] at hc64);refine a2 ?_;refine yfz 1 Tryz.underlying65 Tryz.sizeOf9 ?_;refine yl st 0 Tryz.isAgg9 ?_;refine vy (y_lens rfl Tryz.underlying9) ?_;refine a3 ?_;refine vif ?_ ?_;intro hc69;(try simp only [dn] at hc69);refine a4 ?_;refine vy (y_add rfl rfl rfl (by omega) (by omega)) ?_;refine vc_e (e_call [_, _, _] rfl rfl Tryz.call119 rfl (wrong_any b s _ _ _ _ _ _ (st.res (i := 2) rfl)) ?_);rintro _ w ⟨rfl, cw, hw⟩;replace st := st.turn (i := 2) (r' := .blk b _) rfl rfl rfl cw (.inl (by simp)) hw;dsimp only [setNth] at st;refine vc_e (ests st 1 [_, _, _, _] Tryz.sizeOf65 ?_);intro w st; dsimp only [setNth, wr] at st;refine a4 ?_
  rotate_left
  intro hc69;(try simp only [dn] at hc69);refine a4 ?_;refine yla st 0 [_, _, _, _] Tryz.isAgg65 Tryz.sizeOf65 ?_;refine vc_e (ests st 1 [_, _, _, _] Tryz.sizeOf65 ?_);intro w st; dsimp only [setNth, wr] at st;refine a3 ?_
 all_goals
  refine vq_ret1 st (.inl rfl) Tryz.results83 (by exact .cell 1 rfl rfl Tryz.isAgg65 Tryz.sizeOf65) ?_;refine ⟨_, rfl, ?_⟩;have hlen : (List.take (j - i) (List.drop i s)).length = j - i := by simp; omega
  refine ⟨st.chg, ?_⟩;rw [tokAt_word hi hc, hT]
  first
  | (rw [if_pos hc64]; exact ⟨rfl, by dsimp only; rw [hlen, show i + (j - i) = j from by omega]; exact st.res (i := 2) rfl⟩)
  | (rw [if_neg (by rw [hc64]; simp), if_pos (by omega)]; exact ⟨rfl, _, st.res (i := 2) rfl⟩)
  | (rw [if_neg (by rw [hc64]; simp), if_neg (by omega)]; exact ⟨rfl, by dsimp only; rw [hlen, show i + (j - i) = j from by omega]; exact st.res (i := 2) rfl⟩)
end Go.Proofs.YtjoepkpdanolkaaGreatDoor


namespace Go.Proofs.YtjoepkpdanolkaaGreatDoor
open Go.RowKit Sx LexS _root_.Go.Proofs.Tryz
theorem contains1_any (c : UInt8) (w : World) : Ret Tryz.prog 138 [str signs1, str [c]] w fun v w' => v = .bool (signs1.contains c) ∧ w' = w :=
 (Tryz.strings_Contains_one ⟨signs1.toArray⟩ c w).mono fun e w' ⟨he, hw⟩ => ⟨_, he, by rw [contains_ib], hw⟩
theorem tokAt_sign {s : List UInt8} {i : Nat} (h : i < s.length) (hc : isLetter (s.getD i 0) = false) (hd : isDigit (s.getD i 0) = false) : tokAt (s.drop i) i =
    if isSign2 ((s.drop i).take 2) then .tok ⟨4, (s.drop i).take 2, 0, i⟩ else if isSign1 ((s.drop i).take 1) then .tok ⟨4, (s.drop i).take 1, 0, i⟩ else .bad 1 i := by
 rw [drop_cons h]; simp only [tokAt, hc, hd, Bool.false_eq_true, if_false, List.take_succ_cons, List.take_zero]; rfl
theorem isSign2_len {l : List UInt8} (h : isSign2 l = true) : l.length = 2 := by
 simp only [isSign2, decide_eq_true_eq] at h;rcases h with h | h | h | h | h | h <;> simp [h]
theorem isSign1_len {l : List UInt8} (h : isSign1 l = true) : l.length = 1 := by
 match l, h with
 | [], h => simp [isSign1] at h
 | [_], _ => rfl
 | _ :: _ :: _, h => simp [isSign1] at h
set_option maxHeartbeats 1000000 in
theorem sign_any (l : List UInt8) (w : World) : Ret Tryz.prog 118 [str l] w fun v w' => v = .bool (isSign l) ∧ w' = w := by
 refine ret_of [_] Tryz.func118 rfl Tryz.ntmps118 rfl ?_;have st := St.init w [];refine a16 ?_;refine a3 ?_;refine vif ?_ ?_;intro hc4;(try simp only [dn] at hc4);refine a11 ?_
 rotate_left
 focus
  intro hc4;(try simp only [dn] at hc4);refine a6 ?_;refine vif ?_ ?_;intro hc4;(try simp only [dn] at hc4);refine a11 ?_
  rotate_left
  focus
   intro hc4;(try simp only [dn] at hc4);refine a6 ?_;refine vif ?_ ?_;intro hc4;(try simp only [dn] at hc4);refine a11 ?_
   rotate_left
   focus
    intro hc4;(try simp only [dn] at hc4);refine a6 ?_;refine vif ?_ ?_;intro hc4;(try simp only [dn] at hc4);refine a11 ?_
    rotate_left
    focus
     intro hc4;(try simp only [dn] at hc4);refine a6 ?_;refine vif ?_ ?_;intro hc4;(try simp only [dn] at hc4);refine a11 ?_
     rotate_left
     focus
      intro hc4;(try simp only [dn] at hc4);refine a5 ?_;refine vif ?_ ?_;intro hc4;(try simp only [dn] at hc4);refine a8 ?_
      rotate_left
      focus
       intro hc4;(try simp only [dn] at hc4);refine a6 ?_;refine vy (y_lens rfl Tryz.underlying9) ?_;refine a1 ?_;refine vmb ?_ ?_;intro hg14;(try simp only [dn] at hg14)
       obtain ⟨c, rfl⟩ : ∃ c, l = [c] := by
        match l, hg14 with
        | [c], _ => exact ⟨c, rfl⟩
        | [], h => simp at h
        | _ :: _ :: _, h => simp at h; omega
       refine a1 ?_;refine vc_e (e_call [_, _] rfl rfl Tryz.call138 rfl (contains1_any _ _) ?_);rintro _ _ ⟨rfl, rfl⟩;refine a1 ?_
       rotate_left
       intro hg14;(try simp only [dn] at hg14);refine a3 ?_
       all_goals
        refine a4 ?_
 all_goals
  refine vr1 st Tryz.results118 ?_;refine ⟨?_, rfl⟩;rw [Value.bool.injEq]
  first
  | (symm; simp only [isSign, isSign2, Bool.or_eq_true, decide_eq_true_eq]; simp only [*, true_or, or_true]; done)
  | (have h2 : isSign2 [c] = false := by simp [isSign2]
     simp [isSign, h2, isSign1]; done)
  | (have h2 : isSign2 l = false := by simp only [isSign2, decide_eq_false_iff_not]; simp only [*, or_self, not_false_eq_true]
     have h1 : isSign1 l = false := by
       cases h : isSign1 l
       · rfl
       · have := isSign1_len h; omega
     simp [isSign, h1, h2])
theorem sign_rd (b : Nat) (s : List UInt8) (i : Nat) (fa fr : Int) (w : World) (hb : w.heap[b]? = some (scn s i fa fr)) (hi : i < s.length) (hs : s.length ≤ 3000000) (hc : isLetter (s.getD i 0) = false) (hd : isDigit (s.getD i 0) = false) :
    Ret Tryz.prog 82 [.pointer (some ⟨b, 0, none⟩)] w fun v w' => Chg [b] w w' ∧ RdPost b s i fa fr (tokAt (s.drop i) i) v w' := by
 refine ret_of [_] Tryz.func82 rfl Tryz.ntmps82 rfl ?_;have st := St.init w [b];replace st := St.of1 [b] hb;refine a2 ?_;refine vc_e (e_al (l := [_, _, _, _]) st rfl rfl Tryz.zeroValue65 rfl ?_);intro b2 w hb2 st;refine a9 ?_;refine vc_loop (w0 := _) (M := _) (fun (m : Nat) => [(0, .pointer (some ⟨b, 0, none⟩)), (2, .pointer (some ⟨b2, 0, none⟩)), (3, .int .i64 (m : Int))]) (fun (_ : Nat) => [.blk b2 (.cells zeroL.toArray 65 (0, 0)), .blk b (scn s i fa fr)]) (fun m _ => m ≤ 2 ∧ (m < 2 → isSign2 ((s.drop i).take 2) = false) ∧ (m < 1 → isSign1 ((s.drop i).take 1) = false)) (fun m => m) 2 ⟨rfl, rfl, rfl, trivial⟩ st ⟨by omega, by omega, by omega⟩ ?_;rintro m w ⟨hm, h2, h1⟩ st;refine a7 ?_;refine vif ?_ ?_;intro hc5;(try simp only [dn] at hc5);refine a5 ?_;refine vdr0 Tryz.mixed [Yt 0, Yt 1, Yt 2, Yt 3, Yt 4, Yt 5, Yt 6, Yt 7, Yt 8, Yt 9, Yt 10, Yt 11, Yt 12, Yt 13, Yt 14, Yt 15, Yt 16, Yt 17, Yt 18, Yt 19, Yt 20, Yt 21, Yt 22, Yt 23, Yt 24, Yt 25, Yt 26, Yt 27, Nt 28, Yt 29] st ?_;clear st; intro w st hS;refine pm hS ?_;refine pnk hS ?_;refine pfz hS 1 Tryz.underlying122 Tryz.sizeOf3 ?_;refine pld hS 1 Tryz.isAgg3 ?_;refine pm hS ?_;refine vp_take rfl rfl rfl hS (fun w st => y_add rfl rfl rfl (by omega) (by omega)) ?_;refine pm hS ?_;refine pnk hS ?_;refine pf0 hS Tryz.underlying122 Tryz.sizeOf9 ?_;refine pld hS 1 Tryz.isAgg9 ?_;refine vp_take rfl rfl rfl hS (fun w st => y_lens rfl Tryz.underlying9) ?_;refine vp_take rfl rfl rfl hS (fun w st => y_leq rfl rfl) ?_;refine vp_part rfl rfl rfl hS rfl ?_ ?_;intro hg20;(try simp only [dn] at hg20);refine pm hS ?_;refine pnk hS ?_;refine pf0 hS Tryz.underlying122 Tryz.sizeOf9 ?_;refine pld hS 1 Tryz.isAgg9 ?_;refine pm hS ?_;refine pnk hS ?_;refine pfz hS 1 Tryz.underlying122 Tryz.sizeOf3 ?_;refine pld hS 1 Tryz.isAgg3 ?_;refine pm hS ?_;refine pnk hS ?_;refine pfz hS 1 Tryz.underlying122 Tryz.sizeOf3 ?_;refine pld hS 1 Tryz.isAgg3 ?_;refine pm hS ?_;refine vp_take rfl rfl rfl hS (fun w st => y_add rfl rfl rfl (by omega) (by omega)) ?_;refine vp_take rfl rfl rfl hS (fun w st => y_sls (i := _) (j := (i + m)) rfl rfl rfl Tryz.underlying9 rfl rfl (by omega) (by omega)) ?_;refine vp_do rfl (e_call [_] rfl rfl Tryz.call118 rfl (sign_any _ _) ?_);rintro _ _ ⟨rfl, rfl⟩;refine vp_next (by exact st) ?_; intro hS;refine vp_take rfl rfl rfl hS (fun w st => y_pickt rfl rfl) ?_;refine vp_end (vq_then ?_);refine vif ?_ ?_;intro hc37;(try simp only [dn] at hc37);refine a4 ?_;refine yfz 1 Tryz.underlying122 Tryz.sizeOf3 ?_;refine yl st 1 Tryz.isAgg3 ?_;refine a1 ?_;refine vy (y_add rfl rfl rfl (by omega) (by omega)) ?_;refine a1 ?_;refine yfz 1 Tryz.underlying122 Tryz.sizeOf3 ?_;refine vc_e (est st 1 Tryz.sizeOf3 ?_);intro w st; dsimp only [setNth, wr] at st;refine a3 ?_;refine vdr Tryz.mixed [Yt 0, Yt 1, Yt 2, Yt 3, Yt 4, Yt 5, Yt 6, Yt 7, Yt 8, Yt 9, Yt 10, Yt 11, Yt 12, Yt 13, Yt 14, Yt 15, Yt 16, Yt 17, Yt 18, Yt 19, Yt 20, Yt 21, Nt 22] [.blk b (scn s ((i : Int) + m) fa fr)] st ?_;clear st; intro w st hS;refine pm hS ?_;refine pnk hS ?_;refine pf0 hS Tryz.underlying122 Tryz.sizeOf9 ?_;refine pld hS 0 Tryz.isAgg9 ?_;refine pm hS ?_;refine pnk hS ?_
 refine pfz hS 1 Tryz.underlying122 Tryz.sizeOf3 ?_;refine pld hS 0 Tryz.isAgg3 ?_;refine pm hS ?_;refine vp_take rfl rfl rfl hS (fun w st => y_sub rfl rfl (by omega : _ = (i : Int)) (by omega) (by omega)) ?_;refine pm hS ?_;refine pnk hS ?_;refine pfz hS 1 Tryz.underlying122 Tryz.sizeOf3 ?_;refine pld hS 0 Tryz.isAgg3 ?_;refine vp_take rfl rfl rfl hS (fun w st => y_sls (i := i) (j := (i + m)) rfl rfl rfl Tryz.underlying9 rfl rfl (by omega) (by omega)) ?_;refine pm hS ?_;refine pnk hS ?_;refine pfz hS 1 Tryz.underlying122 Tryz.sizeOf3 ?_;refine pld hS 0 Tryz.isAgg3 ?_;refine pm hS ?_;refine vp_take rfl rfl rfl hS (fun w st => y_sub rfl rfl (by omega : _ = (i : Int)) (by omega) (by omega)) ?_;refine vp_take rfl rfl rfl hS (fun w st => ybd (.agg #[_, _, _, _]) [(0, _), (1, _), (3, _)]) ?_;refine vp_do rfl (ests st 0 [_, _, _, _] Tryz.sizeOf65 ?_);intro w st; dsimp only [setNth, wr] at st;refine vp_next st.dr ?_; intro hS;refine vp_end (vq_then (vc_ret (vq_block_ret (vq_then_ret (vq_then_ret (vq_block_ret (vq_then_ret ?_)))))));refine vq_ret1 st (.inl rfl) Tryz.results82 (by exact .cell 0 rfl rfl Tryz.isAgg65 Tryz.sizeOf65) ?_;refine ⟨_, rfl, ?_⟩;refine ⟨st.chg, ?_⟩;rw [tokAt_sign hi hc hd];rw [show i + m - i = m by omega] at hc37;have hr := st.res (i := 1) rfl;rcases (show m = 2 ∨ m = 1 by omega) with rfl | rfl
 have h2' : isSign2 ((s.drop i).take 2) = true := by
  simp only [isSign, Bool.or_eq_true] at hc37
  rcases hc37 with h | h
  ·exact h
  ·have := isSign1_len h; simp at this; omega
 rw [if_pos h2'];exact ⟨by rfl, by dsimp only; rw [isSign2_len h2']; exact hr⟩
 have h1' : isSign1 ((s.drop i).take 1) = true := by
  simp only [isSign, Bool.or_eq_true] at hc37
  rcases hc37 with h | h
  ·have := isSign2_len h; simp at this; omega
  ·exact h
 rw [if_neg (by rw [h2 (by omega)]; simp), if_pos h1'];exact ⟨by rfl, by dsimp only; rw [isSign1_len h1']; exact hr⟩;intro hc37;(try simp only [dn] at hc37);refine a5 ?_;refine vy (y_sub rfl rfl (by omega : _ = ((m - 1 : Nat) : Int)) (by omega) (by omega)) ?_;refine a2 ?_;refine vq_again (m - 1)  ⟨rfl, rfl, rfl, trivial⟩ st ?_ ?_
 first
 | (exact ⟨by omega, fun _ => by
     rcases (show m = 2 ∨ m = 1 by omega) with rfl | rfl
     · simp only [isSign, Bool.or_eq_false_iff, show i + 2 - i = 2 by omega] at hc37; exact hc37.1
     · exact h2 (by omega), fun hlt => by
     obtain rfl : m = 1 := by omega
     simp only [isSign, Bool.or_eq_false_iff, show i + 1 - i = 1 by omega] at hc37; exact hc37.2⟩)
 omega;intro hg20;(try simp only [dn] at hg20);(iterate 15 refine vp_skip rfl rfl rfl hS ?_);refine vp_do rfl (e_skip rfl rfl (vp_next hS (fun hS => ?_)));refine vp_take rfl rfl rfl hS (fun w st => y_pickf rfl rfl) ?_;refine vp_end (vq_then ?_);refine a6 ?_;refine vy (y_sub rfl rfl (by omega : _ = ((m - 1 : Nat) : Int)) (by omega) (by omega)) ?_;refine a2 ?_;refine vq_again (m - 1)  ⟨rfl, rfl, rfl, trivial⟩ st ?_ ?_
 first
 | (exact ⟨by omega, fun _ => by
     rcases (show m = 2 ∨ m = 1 by omega) with rfl | rfl
     · cases h : isSign2 ((s.drop i).take 2)
       · rfl
       · have hl := isSign2_len h; simp at hl; omega
     · exact h2 (by omega), fun hlt => by
     obtain rfl : m = 1 := by omega
     omega⟩)
 omega;intro hc5;(try simp only [dn] at hc5);refine a10 ?_;refine yfz 1 Tryz.underlying122 Tryz.sizeOf3 ?_;refine yl st 1 Tryz.isAgg3 ?_;refine vc_e (e_call [_, _, _] rfl rfl Tryz.call119 rfl (wrong_any b s _ _ _ _ _ _ (st.res (i := 1) rfl)) ?_);rintro _ w ⟨rfl, cw, hw⟩;replace st := st.turn (i := 1) (r' := .blk b _) rfl rfl rfl cw (.inl (by simp)) hw;dsimp only [setNth] at st;refine vc_e (ests st 0 [_, _, _, _] Tryz.sizeOf65 ?_);intro w st; dsimp only [setNth, wr] at st;refine a3 ?_;refine vq_ret1 st (.inl rfl) Tryz.results82 (by exact .cell 0 rfl rfl Tryz.isAgg65 Tryz.sizeOf65) ?_;refine ⟨_, rfl, ?_⟩;refine ⟨st.chg, ?_⟩;rw [tokAt_sign hi hc hd, if_neg (by rw [h2 (by omega)]; simp), if_neg (by rw [h1 (by omega)]; simp)];exact ⟨rfl, _, st.res (i := 1) rfl⟩
end Go.Proofs.YtjoepkpdanolkaaGreatDoor


namespace Go.Proofs.YtjoepkpdanolkaaGreatDoor
open Go.RowKit Sx LexS _root_.Go.Proofs.Tryz
theorem digit_iff {c : UInt8} (h : isDigit c = true) : 48 ≤ c.toNat ∧ c.toNat ≤ 57 := by simpa [isDigit] using h
theorem tokAt_num {s : List UInt8} {i : Nat} (h : i < s.length) (hc : isLetter (s.getD i 0) = false) (hd : isDigit (s.getD i 0) = true) : tokAt (s.drop i) i =
    if (1 < ((s.drop i).takeWhile isDigit).length ∧ s.getD i 0 = 48) ∨ 9223372036854775807 < numVal ((s.drop i).takeWhile isDigit) then .bad 3 i
  else if i + ((s.drop i).takeWhile isDigit).length < s.length ∧ isLetter (s.getD (i + ((s.drop i).takeWhile isDigit).length) 0) = true then .bad 4 (i + ((s.drop i).takeWhile isDigit).length)
  else .tok ⟨3, (s.drop i).takeWhile isDigit, numVal ((s.drop i).takeWhile isDigit), i⟩ := by
 have e : tokAt (s.drop i) i = if (1 < ((s.drop i).takeWhile isDigit).length ∧ s.getD i 0 = 48) ∨ 9223372036854775807 < numVal ((s.drop i).takeWhile isDigit) then .bad 3 i
     else match (s.drop i).drop ((s.drop i).takeWhile isDigit).length with
    | d :: _ => if isLetter d then .bad 4 (i + ((s.drop i).takeWhile isDigit).length) else .tok ⟨3, (s.drop i).takeWhile isDigit, numVal ((s.drop i).takeWhile isDigit), i⟩
    | [] => .tok ⟨3, (s.drop i).takeWhile isDigit, numVal ((s.drop i).takeWhile isDigit), i⟩ := by
  rw [drop_cons h]; simp only [tokAt, hc, hd, Bool.false_eq_true, if_false, if_true]; rfl
 rw [e]
 generalize (s.drop i).takeWhile isDigit = T
 split;rfl;rw [List.drop_drop]
 by_cases hl : i + T.length < s.length
 rw [drop_cons hl]; simp only [hl, true_and];rw [List.drop_eq_nil_of_le (by omega), if_neg (by omega)]
theorem u8_eq48 {c : UInt8} (h : (c.toNat : Int) = 48) : c = 48 := by
 apply UInt8.toNat_inj.1; simp; omega
theorem num_step {s : List UInt8} {i j : Nat} (hij : i ≤ j) (hj : j < s.length) : numVal ((s.drop i).take (j + 1 - i)) = 10 * numVal ((s.drop i).take (j - i)) + ((s.getD j 0).toNat - 48) := by
 rw [← numVal_snoc, show j + 1 - i = (j - i) + 1 from by omega, List.take_succ_eq_append_getElem (by simp; omega)];simp [List.getD, hj, show i + (j - i) = j from by omega]
set_option maxHeartbeats 1000000 in
theorem number_rd (b : Nat) (s : List UInt8) (i : Nat) (fa fr : Int) (w : World) (hb : w.heap[b]? = some (scn s i fa fr)) (hi : i < s.length) (hs : s.length ≤ 3000000) (hc : isLetter (s.getD i 0) = false) (hd : isDigit (s.getD i 0) = true) :
    Ret Tryz.prog 84 [.pointer (some ⟨b, 0, none⟩)] w fun v w' => Chg [b] w w' ∧ RdPost b s i fa fr (tokAt (s.drop i) i) v w' := by
 refine ret_of [_] Tryz.func84 rfl Tryz.ntmps84 rfl ?_;have st := St.init w [b];replace st := St.of1 [b] hb;refine a2 ?_;refine vc_e (e_al (l := [_, _, _, _]) st rfl rfl Tryz.zeroValue65 rfl ?_);intro b2 w hb2 st;refine a6 ?_;refine yfz 1 Tryz.underlying122 Tryz.sizeOf3 ?_;refine yl st 1 Tryz.isAgg3 ?_;refine a15 ?_;refine vc_loop (w0 := _) (M := _) (fun (x : Nat × Nat × Bool) => [(0, .pointer (some ⟨b, 0, none⟩)), (2, .pointer (some ⟨b2, 0, none⟩)), (3, .int .i64 (i : Int)), (4, .int .u64 (x.2.1 : Int)), (5, .bool x.2.2)]) (fun x => [.blk b2 (.cells zeroL.toArray 65 (0, 0)), .blk b (scn s x.1 fa fr)]) (fun x _ => i ≤ x.1 ∧ x.1 ≤ s.length ∧ (s.drop i).takeWhile isDigit = (s.drop i).take (x.1 - i) ++ (s.drop x.1).takeWhile isDigit ∧ x.2.1 < 18446744073709551616 ∧ x.2.2 = decide (9223372036854775807 < numVal ((s.drop i).take (x.1 - i))) ∧ (x.2.2 = false → x.2.1 = numVal ((s.drop i).take (x.1 - i)))) (fun x => s.length - x.1) (i, 0, false) ⟨rfl, rfl, rfl, rfl, rfl, trivial⟩ st ⟨by simp, by simp; omega, by simp, by simp, by simp [numVal], by simp [numVal]⟩ ?_;rintro ⟨j, n, gr⟩ w ⟨hij, hj, he, hn64, hgr, hn⟩ st;dsimp only at *;refine a2 ?_;refine vdr0 Tryz.mixed [Yt 0, Yt 1, Yt 2, Yt 3, Yt 4, Yt 5, Yt 6, Yt 7, Yt 8, Yt 9, Yt 10, Yt 11, Yt 12, Yt 13, Yt 14, Yt 15, Yt 16, Yt 17, Yt 18, Yt 19, Nt 20, Yt 21] st ?_;clear st; intro w st hS;refine pm hS ?_;refine pnk hS ?_;refine pfz hS 1 Tryz.underlying122 Tryz.sizeOf3 ?_;refine pld hS 1 Tryz.isAgg3 ?_;refine pm hS ?_;refine pnk hS ?_;refine pf0 hS Tryz.underlying122 Tryz.sizeOf9 ?_;refine pld hS 1 Tryz.isAgg9 ?_;refine vp_take rfl rfl rfl hS (fun w st => y_lens rfl Tryz.underlying9) ?_;refine vp_take rfl rfl rfl hS (fun w st => y_lss rfl rfl) ?_;refine vp_part rfl rfl rfl hS rfl ?_ ?_
 ·intro hg21;(try simp only [dn] at hg21);refine pm hS ?_;refine pnk hS ?_;refine pf0 hS Tryz.underlying122 Tryz.sizeOf9 ?_;refine pld hS 1 Tryz.isAgg9 ?_;refine pm hS ?_;refine pnk hS ?_;refine pfz hS 1 Tryz.underlying122 Tryz.sizeOf3 ?_;refine pld hS 1 Tryz.isAgg3 ?_;refine vp_take rfl rfl rfl hS (fun w st => y_ixs (k := _) rfl rfl Tryz.underlying9 rfl (by omega)) ?_;refine vp_do rfl (e_call [_] rfl rfl Tryz.call86 rfl (digit_any _ _) ?_);rintro _ _ ⟨rfl, rfl⟩;refine vp_next (by exact st) ?_; intro hS;refine vp_take rfl rfl rfl hS (fun w st => y_pickt rfl rfl) ?_;refine vp_end (vq_then ?_);refine vif ?_ ?_
  ·intro hc32;(try simp only [dn] at hc32);have hdg := digit_iff hc32;refine a4 ?_;refine vdr0 Tryz.mixed [Yt 0, Yt 1, Yt 2, Yt 3, Yt 4, Yt 5, Yt 6, Yt 7, Yt 8, Yt 9, Yt 10, Yt 11] st ?_;clear st; intro w st hS;refine pm hS ?_;refine pnk hS ?_;refine pf0 hS Tryz.underlying122 Tryz.sizeOf9 ?_;refine pld hS 1 Tryz.isAgg9 ?_;refine pm hS ?_;refine pnk hS ?_;refine pfz hS 1 Tryz.underlying122 Tryz.sizeOf3 ?_;refine pld hS 1 Tryz.isAgg3 ?_;refine vp_take rfl rfl rfl hS (fun w st => y_ixs (k := _) rfl rfl Tryz.underlying9 rfl (by omega)) ?_;refine vp_take rfl rfl rfl hS (fun w st => y_subk rfl rfl (by rw [wrap_u8]; omega : _ = (((s.getD j 0).toNat - 48 : Nat) : Int))) ?_;refine vp_take rfl rfl rfl hS (fun w st => y_cvi rfl Tryz.underlying126 Tryz.underlying5 (by rw [wrap_u64]; omega : _ = (((s.getD j 0).toNat - 48 : Nat) : Int))) ?_;refine vp_take rfl rfl rfl hS (fun w st => y_as rfl) ?_;refine vp_end (vq_then (sr ?_));refine a1 ?_;refine vmb ?_ ?_
   ·intro hg45;(try simp only [dn] at hg45);refine a12 ?_;refine vy (y_mulk rfl rfl (by rw [wrap_u64]; omega : _ = ((n * 10 % 18446744073709551616 : Nat) : Int))) ?_;refine a1 ?_;refine vy (y_addk rfl rfl (by rw [wrap_u64]; omega : _ = (((n * 10 % 18446744073709551616 + ((s.getD j 0).toNat - 48)) % 18446744073709551616 : Nat) : Int))) ?_;refine a6 ?_;refine yfz 1 Tryz.underlying122 Tryz.sizeOf3 ?_;refine yl st 1 Tryz.isAgg3 ?_;refine vy (y_add rfl rfl rfl (by omega) (by omega)) ?_;refine a1 ?_;refine yfz 1 Tryz.underlying122 Tryz.sizeOf3 ?_;refine vc_e (est st 1 Tryz.sizeOf3 ?_);intro w st; dsimp only [setNth, wr] at st;refine a2 ?_;refine vq_again (j + 1, (n * 10 % 18446744073709551616 + ((s.getD j 0).toNat - 48)) % 18446744073709551616, true)  ⟨rfl, rfl, rfl, rfl, rfl, trivial⟩ st ?_ ?_
    ·refine ⟨by omega, by omega, tw_step hij (by omega) (by assumption) he, Nat.mod_lt _ (by decide), ?_, ?_⟩
     all_goals (dsimp only; have hns := num_step hij (show j < s.length by omega))
     rw [hns]
     (symm; rw [decide_eq_true_eq]; subst hg45; have hh := hgr.symm; rw [decide_eq_true_eq] at hh; omega)
     intro hf
     (cases hf; done)
    dsimp only; omega
   intro hg45;(try simp only [dn] at hg45);refine a2 ?_;refine vy (y_subk rfl rfl (by rw [wrap_u64]; omega : _ = ((9223372036854775807 - ((s.getD j 0).toNat - 48) : Nat) : Int))) ?_;refine vy (y_quok rfl rfl (by omega) (by omega) (by rw [wrap_u64]; omega : _ = (((9223372036854775807 - ((s.getD j 0).toNat - 48)) / 10 : Nat) : Int))) ?_;refine a8 ?_;refine vy (y_mulk rfl rfl (by rw [wrap_u64]; omega : _ = ((n * 10 % 18446744073709551616 : Nat) : Int))) ?_;refine a1 ?_;refine vy (y_addk rfl rfl (by rw [wrap_u64]; omega : _ = (((n * 10 % 18446744073709551616 + ((s.getD j 0).toNat - 48)) % 18446744073709551616 : Nat) : Int))) ?_;refine a6 ?_;refine yfz 1 Tryz.underlying122 Tryz.sizeOf3 ?_;refine yl st 1 Tryz.isAgg3 ?_;refine vy (y_add rfl rfl rfl (by omega) (by omega)) ?_;refine a1 ?_;refine yfz 1 Tryz.underlying122 Tryz.sizeOf3 ?_;refine vc_e (est st 1 Tryz.sizeOf3 ?_);intro w st; dsimp only [setNth, wr] at st;refine a2 ?_;refine vq_again (j + 1, (n * 10 % 18446744073709551616 + ((s.getD j 0).toNat - 48)) % 18446744073709551616, decide ((((9223372036854775807 - ((s.getD j 0).toNat - 48)) / 10 : Nat) : Int) < (n : Int)))  ⟨rfl, rfl, rfl, rfl, rfl, trivial⟩ st ?_ ?_
   ·refine ⟨by omega, by omega, tw_step hij (by omega) (by assumption) he, Nat.mod_lt _ (by decide), ?_, ?_⟩
    all_goals (dsimp only; have hns := num_step hij (show j < s.length by omega))
    rw [hns]
    first
    | (have hz : n = numVal ((s.drop i).take (j - i)) := hn hg45
       rw [Bool.eq_iff_iff, decide_eq_true_eq, decide_eq_true_eq, ← hz]; omega)
    intro hf
    first
    | (have hz : n = numVal ((s.drop i).take (j - i)) := hn hg45
       rw [decide_eq_false_iff_not] at hf
       rw [hns, ← hz]; omega)
   dsimp only; omega
  intro hc32;(try simp only [dn] at hc32);have hT := tw_end (fun _ => by assumption) he;refine a11 ?_;refine yfz 1 Tryz.underlying122 Tryz.sizeOf3 ?_;refine yl st 1 Tryz.isAgg3 ?_;refine a1 ?_;refine vy (y_add rfl rfl rfl (by omega) (by omega)) ?_;refine a1 ?_;refine vmb ?_ ?_
  focus
   intro hg71;(try simp only [dn] at hg71);refine a2 ?_;refine vy (y_fa0 rfl Tryz.underlying122 rfl rfl Tryz.sizeOf9 rfl) ?_;refine yl st 1 Tryz.isAgg9 ?_;refine a1 ?_;refine vy (y_ixs (k := _) rfl rfl Tryz.underlying9 rfl (by omega)) ?_;refine a2 ?_;refine vmb ?_ ?_;intro hg80;(try simp only [dn] at hg80);refine a10 ?_;refine vc_e (e_call [_, _, _] rfl rfl Tryz.call119 rfl (wrong_any b s _ _ _ _ _ _ (st.res (i := 1) rfl)) ?_);rintro _ w ⟨rfl, cw, hw⟩;replace st := st.turn (i := 1) (r' := .blk b _) rfl rfl rfl cw (.inl (by simp)) hw;dsimp only [setNth] at st;refine vc_e (ests st 0 [_, _, _, _] Tryz.sizeOf65 ?_);intro w st; dsimp only [setNth, wr] at st;refine a5 ?_
   rotate_left
   focus
    intro hg80;(try simp only [dn] at hg80);refine a5 ?_;refine vif ?_ ?_;intro hc63;(try simp only [dn] at hc63);refine a4 ?_;refine vc_e (e_call [_, _, _] rfl rfl Tryz.call119 rfl (wrong_any b s _ _ _ _ _ _ (st.res (i := 1) rfl)) ?_);rintro _ w ⟨rfl, cw, hw⟩;replace st := st.turn (i := 1) (r' := .blk b _) rfl rfl rfl cw (.inl (by simp)) hw;dsimp only [setNth] at st;refine vc_e (ests st 0 [_, _, _, _] Tryz.sizeOf65 ?_);intro w st; dsimp only [setNth, wr] at st;refine a5 ?_
    rotate_left
    focus
     intro hc63;(try simp only [dn] at hc63);have hnn := hn hc63;have hM : n ≤ 9223372036854775807 := by rw [hc63] at hgr; have := of_decide_eq_false hgr.symm; omega
     refine a1 ?_;refine vdr0 Tryz.mixed [Yt 0, Yt 1, Yt 2, Yt 3, Yt 4, Yt 5, Yt 6, Yt 7, Yt 8, Yt 9, Yt 10, Yt 11, Yt 12, Yt 13, Yt 14, Yt 15, Yt 16, Yt 17, Yt 18, Yt 19, Nt 20, Yt 21, Yt 22] st ?_;clear st; intro w st hS;refine pm hS ?_;refine pnk hS ?_;refine pfz hS 1 Tryz.underlying122 Tryz.sizeOf3 ?_;refine pld hS 1 Tryz.isAgg3 ?_;refine pm hS ?_;refine pnk hS ?_;refine pf0 hS Tryz.underlying122 Tryz.sizeOf9 ?_;refine pld hS 1 Tryz.isAgg9 ?_;refine vp_take rfl rfl rfl hS (fun w st => y_lens rfl Tryz.underlying9) ?_;refine vp_take rfl rfl rfl hS (fun w st => y_lss rfl rfl) ?_;refine vp_part rfl rfl rfl hS rfl ?_ ?_
     focus
      intro hg97;(try simp only [dn] at hg97);refine pm hS ?_;refine pnk hS ?_;refine pf0 hS Tryz.underlying122 Tryz.sizeOf9 ?_;refine pld hS 1 Tryz.isAgg9 ?_;refine pm hS ?_;refine pnk hS ?_;refine pfz hS 1 Tryz.underlying122 Tryz.sizeOf3 ?_;refine pld hS 1 Tryz.isAgg3 ?_;refine vp_take rfl rfl rfl hS (fun w st => y_ixs (k := _) rfl rfl Tryz.underlying9 rfl (by omega)) ?_;refine vp_do rfl (e_call [_] rfl rfl Tryz.call85 rfl (letter_any _ _) ?_);rintro _ _ ⟨rfl, rfl⟩;refine vp_next (by exact st) ?_; intro hS;refine vp_take rfl rfl rfl hS (fun w st => y_pickt rfl rfl) ?_;refine vp_take rfl rfl rfl hS (fun w st => y_as rfl) ?_;refine vp_end (vq_then ?_);refine vif ?_ ?_;intro hc86;(try simp only [dn] at hc86);refine a5 ?_;refine yfz 1 Tryz.underlying122 Tryz.sizeOf3 ?_;refine yl st 1 Tryz.isAgg3 ?_;refine vc_e (e_call [_, _, _] rfl rfl Tryz.call119 rfl (wrong_any b s _ _ _ _ _ _ (st.res (i := 1) rfl)) ?_);rintro _ w ⟨rfl, cw, hw⟩;replace st := st.turn (i := 1) (r' := .blk b _) rfl rfl rfl cw (.inl (by simp)) hw;dsimp only [setNth] at st;refine vc_e (ests st 0 [_, _, _, _] Tryz.sizeOf65 ?_);intro w st; dsimp only [setNth, wr] at st;refine a5 ?_
      rotate_left
      intro hc86;(try simp only [dn] at hc86);refine a4 ?_;refine vdr Tryz.mixed [Yt 0, Yt 1, Yt 2, Yt 3, Yt 4, Yt 5, Yt 6, Yt 7, Yt 8, Yt 9, Yt 10, Yt 11, Yt 12, Yt 13, Nt 14] [.blk b (scn s j fa fr)] st ?_;clear st; intro w st hS;refine pm hS ?_;refine pnk hS ?_;refine pf0 hS Tryz.underlying122 Tryz.sizeOf9 ?_;refine pld hS 0 Tryz.isAgg9 ?_;(iterate 2 refine pm hS ?_);refine pnk hS ?_;refine pfz hS 1 Tryz.underlying122 Tryz.sizeOf3 ?_;refine pld hS 0 Tryz.isAgg3 ?_;refine vp_take rfl rfl rfl hS (fun w st => y_sls (i := _) (j := _) rfl rfl rfl Tryz.underlying9 rfl rfl (by omega) (by omega)) ?_;refine pm hS ?_;refine vp_take rfl rfl rfl hS (fun w st => y_cvi rfl Tryz.underlying2 Tryz.underlying126 (IntWalk.i64_in _ ⟨by omega, by omega⟩ : _ = (n : Int))) ?_;refine pm hS ?_;refine vp_take rfl rfl rfl hS (fun w st => ybd (.agg #[_, _, _, _]) [(0, _), (1, _), (2, _), (3, _)]) ?_;refine vp_do rfl (ests st 0 [_, _, _, _] Tryz.sizeOf65 ?_);intro w st; dsimp only [setNth, wr] at st;refine vp_next st.dr ?_; intro hS;refine vp_end (vq_then (vc_ret ?_))
     rotate_left 2
     intro hg97;(try simp only [dn] at hg97);(iterate 9 refine vp_skip rfl rfl rfl hS ?_);refine vp_do rfl (e_skip rfl rfl (vp_next hS (fun hS => ?_)));refine vp_take rfl rfl rfl hS (fun w st => y_pickf rfl rfl) ?_;refine vp_take rfl rfl rfl hS (fun w st => y_as rfl) ?_;refine vp_end (vq_then ?_);refine a5 ?_;refine vdr Tryz.mixed [Yt 0, Yt 1, Yt 2, Yt 3, Yt 4, Yt 5, Yt 6, Yt 7, Yt 8, Yt 9, Yt 10, Yt 11, Yt 12, Yt 13, Nt 14] [.blk b (scn s j fa fr)] st ?_;clear st; intro w st hS;refine pm hS ?_;refine pnk hS ?_;refine pf0 hS Tryz.underlying122 Tryz.sizeOf9 ?_;refine pld hS 0 Tryz.isAgg9 ?_;(iterate 2 refine pm hS ?_);refine pnk hS ?_;refine pfz hS 1 Tryz.underlying122 Tryz.sizeOf3 ?_;refine pld hS 0 Tryz.isAgg3 ?_;refine vp_take rfl rfl rfl hS (fun w st => y_sls (i := _) (j := _) rfl rfl rfl Tryz.underlying9 rfl rfl (by omega) (by omega)) ?_;refine pm hS ?_;refine vp_take rfl rfl rfl hS (fun w st => y_cvi rfl Tryz.underlying2 Tryz.underlying126 (IntWalk.i64_in _ ⟨by omega, by omega⟩ : _ = (n : Int))) ?_;refine pm hS ?_;refine vp_take rfl rfl rfl hS (fun w st => ybd (.agg #[_, _, _, _]) [(0, _), (1, _), (2, _), (3, _)]) ?_;refine vp_do rfl (ests st 0 [_, _, _, _] Tryz.sizeOf65 ?_);intro w st; dsimp only [setNth, wr] at st;refine vp_next st.dr ?_; intro hS;refine vp_end (vq_then (vc_ret ?_))
  rotate_left 5
  focus
   intro hg71;(try simp only [dn] at hg71);refine a14 ?_;refine vif ?_ ?_;intro hc63;(try simp only [dn] at hc63);refine a4 ?_;refine vc_e (e_call [_, _, _] rfl rfl Tryz.call119 rfl (wrong_any b s _ _ _ _ _ _ (st.res (i := 1) rfl)) ?_);rintro _ w ⟨rfl, cw, hw⟩;replace st := st.turn (i := 1) (r' := .blk b _) rfl rfl rfl cw (.inl (by simp)) hw;dsimp only [setNth] at st;refine vc_e (ests st 0 [_, _, _, _] Tryz.sizeOf65 ?_);intro w st; dsimp only [setNth, wr] at st;refine a5 ?_
   rotate_left
   focus
    intro hc63;(try simp only [dn] at hc63);have hnn := hn hc63;have hM : n ≤ 9223372036854775807 := by rw [hc63] at hgr; have := of_decide_eq_false hgr.symm; omega
    refine a1 ?_;refine vdr0 Tryz.mixed [Yt 0, Yt 1, Yt 2, Yt 3, Yt 4, Yt 5, Yt 6, Yt 7, Yt 8, Yt 9, Yt 10, Yt 11, Yt 12, Yt 13, Yt 14, Yt 15, Yt 16, Yt 17, Yt 18, Yt 19, Nt 20, Yt 21, Yt 22] st ?_;clear st; intro w st hS;refine pm hS ?_;refine pnk hS ?_;refine pfz hS 1 Tryz.underlying122 Tryz.sizeOf3 ?_;refine pld hS 1 Tryz.isAgg3 ?_;refine pm hS ?_;refine pnk hS ?_;refine pf0 hS Tryz.underlying122 Tryz.sizeOf9 ?_;refine pld hS 1 Tryz.isAgg9 ?_;refine vp_take rfl rfl rfl hS (fun w st => y_lens rfl Tryz.underlying9) ?_;refine vp_take rfl rfl rfl hS (fun w st => y_lss rfl rfl) ?_;refine vp_part rfl rfl rfl hS rfl ?_ ?_
    focus
     intro hg97;(try simp only [dn] at hg97);refine pm hS ?_;refine pnk hS ?_;refine pf0 hS Tryz.underlying122 Tryz.sizeOf9 ?_;refine pld hS 1 Tryz.isAgg9 ?_;refine pm hS ?_;refine pnk hS ?_;refine pfz hS 1 Tryz.underlying122 Tryz.sizeOf3 ?_;refine pld hS 1 Tryz.isAgg3 ?_;refine vp_take rfl rfl rfl hS (fun w st => y_ixs (k := _) rfl rfl Tryz.underlying9 rfl (by omega)) ?_;refine vp_do rfl (e_call [_] rfl rfl Tryz.call85 rfl (letter_any _ _) ?_);rintro _ _ ⟨rfl, rfl⟩;refine vp_next (by exact st) ?_; intro hS;refine vp_take rfl rfl rfl hS (fun w st => y_pickt rfl rfl) ?_;refine vp_take rfl rfl rfl hS (fun w st => y_as rfl) ?_;refine vp_end (vq_then ?_);refine vif ?_ ?_;intro hc86;(try simp only [dn] at hc86);refine a5 ?_;refine yfz 1 Tryz.underlying122 Tryz.sizeOf3 ?_;refine yl st 1 Tryz.isAgg3 ?_;refine vc_e (e_call [_, _, _] rfl rfl Tryz.call119 rfl (wrong_any b s _ _ _ _ _ _ (st.res (i := 1) rfl)) ?_);rintro _ w ⟨rfl, cw, hw⟩;replace st := st.turn (i := 1) (r' := .blk b _) rfl rfl rfl cw (.inl (by simp)) hw;dsimp only [setNth] at st;refine vc_e (ests st 0 [_, _, _, _] Tryz.sizeOf65 ?_);intro w st; dsimp only [setNth, wr] at st;refine a5 ?_
     rotate_left
     intro hc86;(try simp only [dn] at hc86);refine a4 ?_;refine vdr Tryz.mixed [Yt 0, Yt 1, Yt 2, Yt 3, Yt 4, Yt 5, Yt 6, Yt 7, Yt 8, Yt 9, Yt 10, Yt 11, Yt 12, Yt 13, Nt 14] [.blk b (scn s j fa fr)] st ?_;clear st; intro w st hS;refine pm hS ?_;refine pnk hS ?_;refine pf0 hS Tryz.underlying122 Tryz.sizeOf9 ?_;refine pld hS 0 Tryz.isAgg9 ?_;(iterate 2 refine pm hS ?_);refine pnk hS ?_;refine pfz hS 1 Tryz.underlying122 Tryz.sizeOf3 ?_;refine pld hS 0 Tryz.isAgg3 ?_;refine vp_take rfl rfl rfl hS (fun w st => y_sls (i := _) (j := _) rfl rfl rfl Tryz.underlying9 rfl rfl (by omega) (by omega)) ?_;refine pm hS ?_;refine vp_take rfl rfl rfl hS (fun w st => y_cvi rfl Tryz.underlying2 Tryz.underlying126 (IntWalk.i64_in _ ⟨by omega, by omega⟩ : _ = (n : Int))) ?_;refine pm hS ?_;refine vp_take rfl rfl rfl hS (fun w st => ybd (.agg #[_, _, _, _]) [(0, _), (1, _), (2, _), (3, _)]) ?_;refine vp_do rfl (ests st 0 [_, _, _, _] Tryz.sizeOf65 ?_);intro w st; dsimp only [setNth, wr] at st;refine vp_next st.dr ?_; intro hS;refine vp_end (vq_then (vc_ret ?_))
    rotate_left 2
    intro hg97;(try simp only [dn] at hg97);(iterate 9 refine vp_skip rfl rfl rfl hS ?_);refine vp_do rfl (e_skip rfl rfl (vp_next hS (fun hS => ?_)));refine vp_take rfl rfl rfl hS (fun w st => y_pickf rfl rfl) ?_;refine vp_take rfl rfl rfl hS (fun w st => y_as rfl) ?_;refine vp_end (vq_then ?_);refine a5 ?_;refine vdr Tryz.mixed [Yt 0, Yt 1, Yt 2, Yt 3, Yt 4, Yt 5, Yt 6, Yt 7, Yt 8, Yt 9, Yt 10, Yt 11, Yt 12, Yt 13, Nt 14] [.blk b (scn s j fa fr)] st ?_;clear st; intro w st hS;refine pm hS ?_;refine pnk hS ?_;refine pf0 hS Tryz.underlying122 Tryz.sizeOf9 ?_;refine pld hS 0 Tryz.isAgg9 ?_;(iterate 2 refine pm hS ?_);refine pnk hS ?_;refine pfz hS 1 Tryz.underlying122 Tryz.sizeOf3 ?_;refine pld hS 0 Tryz.isAgg3 ?_;refine vp_take rfl rfl rfl hS (fun w st => y_sls (i := _) (j := _) rfl rfl rfl Tryz.underlying9 rfl rfl (by omega) (by omega)) ?_;refine pm hS ?_;refine vp_take rfl rfl rfl hS (fun w st => y_cvi rfl Tryz.underlying2 Tryz.underlying126 (IntWalk.i64_in _ ⟨by omega, by omega⟩ : _ = (n : Int))) ?_;refine pm hS ?_;refine vp_take rfl rfl rfl hS (fun w st => ybd (.agg #[_, _, _, _]) [(0, _), (1, _), (2, _), (3, _)]) ?_;refine vp_do rfl (ests st 0 [_, _, _, _] Tryz.sizeOf65 ?_);intro w st; dsimp only [setNth, wr] at st;refine vp_next st.dr ?_; intro hS;refine vp_end (vq_then (vc_ret ?_))
  all_goals
   refine vq_ret1 st (.inl rfl) Tryz.results84 (by exact .cell 0 rfl rfl Tryz.isAgg65 Tryz.sizeOf65) ?_;refine ⟨_, rfl, ?_⟩;have hlen : (List.take (j - i) (List.drop i s)).length = j - i := by simp; omega
   have hpos : i < j := by
    rcases Nat.lt_or_ge i j with h | h
    ·exact h
    ·exfalso
     rw [show j - i = 0 by omega, List.take_zero, drop_cons hi, List.takeWhile_cons, if_pos hd] at hT
     cases hT
   refine ⟨st.chg, ?_⟩;rw [tokAt_num hi hc hd, hT, hlen, show i + (j - i) = j by omega];have hr := st.res (i := 1) rfl
   first
   | (rw [if_pos (.inl ⟨by omega, u8_eq48 (by assumption)⟩)]; exact ⟨rfl, _, hr⟩)
   | (rw [if_pos (.inr (of_decide_eq_true (by rw [← hgr]; assumption)))]; exact ⟨rfl, _, hr⟩)
   | (have hNB : ¬((1 < j - i ∧ s.getD i 0 = 48) ∨ 9223372036854775807 < numVal (List.take (j - i) (List.drop i s))) := by
        rintro (⟨h1, h2⟩ | h2)
        · have h3 : ((s.getD i 0).toNat : Int) = 48 := by rw [h2]; rfl
          omega
        · omega
      rw [if_neg hNB]
      first
      | (rw [if_pos ⟨by omega, by assumption⟩]; exact ⟨rfl, _, hr⟩)
      | (rw [if_neg (by rintro ⟨h1, h2⟩; first | omega | simp_all)]
         exact ⟨by rw [← hnn]; rfl, by dsimp only; rw [hlen, show i + (j - i) = j by omega]; exact hr⟩))
 intro hg21;(try simp only [dn] at hg21);have hT := tw_end (fun h => absurd h (by omega)) he;(iterate 9 refine vp_skip rfl rfl rfl hS ?_);refine vp_do rfl (e_skip rfl rfl (vp_next hS (fun hS => ?_)));refine vp_take rfl rfl rfl hS (fun w st => y_pickf rfl rfl) ?_;refine vp_end (vq_then ?_);refine a12 ?_;refine yfz 1 Tryz.underlying122 Tryz.sizeOf3 ?_;refine yl st 1 Tryz.isAgg3 ?_;refine a1 ?_;refine vy (y_add rfl rfl rfl (by omega) (by omega)) ?_;refine a1 ?_;refine vmb ?_ ?_
 focus
  intro hg71;(try simp only [dn] at hg71);refine a2 ?_;refine vy (y_fa0 rfl Tryz.underlying122 rfl rfl Tryz.sizeOf9 rfl) ?_;refine yl st 1 Tryz.isAgg9 ?_;refine a1 ?_;refine vy (y_ixs (k := _) rfl rfl Tryz.underlying9 rfl (by omega)) ?_;refine a2 ?_;refine vmb ?_ ?_;intro hg80;(try simp only [dn] at hg80);refine a10 ?_;refine vc_e (e_call [_, _, _] rfl rfl Tryz.call119 rfl (wrong_any b s _ _ _ _ _ _ (st.res (i := 1) rfl)) ?_);rintro _ w ⟨rfl, cw, hw⟩;replace st := st.turn (i := 1) (r' := .blk b _) rfl rfl rfl cw (.inl (by simp)) hw;dsimp only [setNth] at st;refine vc_e (ests st 0 [_, _, _, _] Tryz.sizeOf65 ?_);intro w st; dsimp only [setNth, wr] at st;refine a5 ?_
  rotate_left
  focus
   intro hg80;(try simp only [dn] at hg80);refine a5 ?_;refine vif ?_ ?_;intro hc63;(try simp only [dn] at hc63);refine a4 ?_;refine vc_e (e_call [_, _, _] rfl rfl Tryz.call119 rfl (wrong_any b s _ _ _ _ _ _ (st.res (i := 1) rfl)) ?_);rintro _ w ⟨rfl, cw, hw⟩;replace st := st.turn (i := 1) (r' := .blk b _) rfl rfl rfl cw (.inl (by simp)) hw;dsimp only [setNth] at st;refine vc_e (ests st 0 [_, _, _, _] Tryz.sizeOf65 ?_);intro w st; dsimp only [setNth, wr] at st;refine a5 ?_
   rotate_left
   focus
    intro hc63;(try simp only [dn] at hc63);have hnn := hn hc63;have hM : n ≤ 9223372036854775807 := by rw [hc63] at hgr; have := of_decide_eq_false hgr.symm; omega
    refine a1 ?_;refine vdr0 Tryz.mixed [Yt 0, Yt 1, Yt 2, Yt 3, Yt 4, Yt 5, Yt 6, Yt 7, Yt 8, Yt 9, Yt 10, Yt 11, Yt 12, Yt 13, Yt 14, Yt 15, Yt 16, Yt 17, Yt 18, Yt 19, Nt 20, Yt 21, Yt 22] st ?_;clear st; intro w st hS;refine pm hS ?_;refine pnk hS ?_;refine pfz hS 1 Tryz.underlying122 Tryz.sizeOf3 ?_;refine pld hS 1 Tryz.isAgg3 ?_;refine pm hS ?_;refine pnk hS ?_;refine pf0 hS Tryz.underlying122 Tryz.sizeOf9 ?_;refine pld hS 1 Tryz.isAgg9 ?_;refine vp_take rfl rfl rfl hS (fun w st => y_lens rfl Tryz.underlying9) ?_;refine vp_take rfl rfl rfl hS (fun w st => y_lss rfl rfl) ?_;refine vp_part rfl rfl rfl hS rfl ?_ ?_
    focus
     intro hg97;(try simp only [dn] at hg97);refine pm hS ?_;refine pnk hS ?_;refine pf0 hS Tryz.underlying122 Tryz.sizeOf9 ?_;refine pld hS 1 Tryz.isAgg9 ?_;refine pm hS ?_;refine pnk hS ?_;refine pfz hS 1 Tryz.underlying122 Tryz.sizeOf3 ?_;refine pld hS 1 Tryz.isAgg3 ?_;refine vp_take rfl rfl rfl hS (fun w st => y_ixs (k := _) rfl rfl Tryz.underlying9 rfl (by omega)) ?_;refine vp_do rfl (e_call [_] rfl rfl Tryz.call85 rfl (letter_any _ _) ?_);rintro _ _ ⟨rfl, rfl⟩;refine vp_next (by exact st) ?_; intro hS;refine vp_take rfl rfl rfl hS (fun w st => y_pickt rfl rfl) ?_;refine vp_take rfl rfl rfl hS (fun w st => y_as rfl) ?_;refine vp_end (vq_then ?_);refine vif ?_ ?_;intro hc86;(try simp only [dn] at hc86);refine a5 ?_;refine yfz 1 Tryz.underlying122 Tryz.sizeOf3 ?_;refine yl st 1 Tryz.isAgg3 ?_;refine vc_e (e_call [_, _, _] rfl rfl Tryz.call119 rfl (wrong_any b s _ _ _ _ _ _ (st.res (i := 1) rfl)) ?_);rintro _ w ⟨rfl, cw, hw⟩;replace st := st.turn (i := 1) (r' := .blk b _) rfl rfl rfl cw (.inl (by simp)) hw;dsimp only [setNth] at st;refine vc_e (ests st 0 [_, _, _, _] Tryz.sizeOf65 ?_);intro w st; dsimp only [setNth, wr] at st;refine a5 ?_
     rotate_left
     intro hc86;(try simp only [dn] at hc86);refine a4 ?_;refine vdr Tryz.mixed [Yt 0, Yt 1, Yt 2, Yt 3, Yt 4, Yt 5, Yt 6, Yt 7, Yt 8, Yt 9, Yt 10, Yt 11, Yt 12, Yt 13, Nt 14] [.blk b (scn s j fa fr)] st ?_;clear st; intro w st hS;refine pm hS ?_;refine pnk hS ?_;refine pf0 hS Tryz.underlying122 Tryz.sizeOf9 ?_;refine pld hS 0 Tryz.isAgg9 ?_;(iterate 2 refine pm hS ?_);refine pnk hS ?_;refine pfz hS 1 Tryz.underlying122 Tryz.sizeOf3 ?_;refine pld hS 0 Tryz.isAgg3 ?_;refine vp_take rfl rfl rfl hS (fun w st => y_sls (i := _) (j := _) rfl rfl rfl Tryz.underlying9 rfl rfl (by omega) (by omega)) ?_;refine pm hS ?_;refine vp_take rfl rfl rfl hS (fun w st => y_cvi rfl Tryz.underlying2 Tryz.underlying126 (IntWalk.i64_in _ ⟨by omega, by omega⟩ : _ = (n : Int))) ?_;refine pm hS ?_;refine vp_take rfl rfl rfl hS (fun w st => ybd (.agg #[_, _, _, _]) [(0, _), (1, _), (2, _), (3, _)]) ?_;refine vp_do rfl (ests st 0 [_, _, _, _] Tryz.sizeOf65 ?_);intro w st; dsimp only [setNth, wr] at st;refine vp_next st.dr ?_; intro hS;refine vp_end (vq_then (vc_ret ?_))
    rotate_left 2
    intro hg97;(try simp only [dn] at hg97);(iterate 9 refine vp_skip rfl rfl rfl hS ?_);refine vp_do rfl (e_skip rfl rfl (vp_next hS (fun hS => ?_)));refine vp_take rfl rfl rfl hS (fun w st => y_pickf rfl rfl) ?_;refine vp_take rfl rfl rfl hS (fun w st => y_as rfl) ?_;refine vp_end (vq_then ?_);refine a5 ?_;refine vdr Tryz.mixed [Yt 0, Yt 1, Yt 2, Yt 3, Yt 4, Yt 5, Yt 6, Yt 7, Yt 8, Yt 9, Yt 10, Yt 11, Yt 12, Yt 13, Nt 14] [.blk b (scn s j fa fr)] st ?_;clear st; intro w st hS;refine pm hS ?_;refine pnk hS ?_;refine pf0 hS Tryz.underlying122 Tryz.sizeOf9 ?_;refine pld hS 0 Tryz.isAgg9 ?_;(iterate 2 refine pm hS ?_);refine pnk hS ?_;refine pfz hS 1 Tryz.underlying122 Tryz.sizeOf3 ?_;refine pld hS 0 Tryz.isAgg3 ?_;refine vp_take rfl rfl rfl hS (fun w st => y_sls (i := _) (j := _) rfl rfl rfl Tryz.underlying9 rfl rfl (by omega) (by omega)) ?_;refine pm hS ?_;refine vp_take rfl rfl rfl hS (fun w st => y_cvi rfl Tryz.underlying2 Tryz.underlying126 (IntWalk.i64_in _ ⟨by omega, by omega⟩ : _ = (n : Int))) ?_;refine pm hS ?_;refine vp_take rfl rfl rfl hS (fun w st => ybd (.agg #[_, _, _, _]) [(0, _), (1, _), (2, _), (3, _)]) ?_;refine vp_do rfl (ests st 0 [_, _, _, _] Tryz.sizeOf65 ?_);intro w st; dsimp only [setNth, wr] at st;refine vp_next st.dr ?_; intro hS;refine vp_end (vq_then (vc_ret ?_))
 rotate_left 5
 focus
  intro hg71;(try simp only [dn] at hg71);refine a14 ?_;refine vif ?_ ?_;intro hc63;(try simp only [dn] at hc63);refine a4 ?_;refine vc_e (e_call [_, _, _] rfl rfl Tryz.call119 rfl (wrong_any b s _ _ _ _ _ _ (st.res (i := 1) rfl)) ?_);rintro _ w ⟨rfl, cw, hw⟩;replace st := st.turn (i := 1) (r' := .blk b _) rfl rfl rfl cw (.inl (by simp)) hw;dsimp only [setNth] at st;refine vc_e (ests st 0 [_, _, _, _] Tryz.sizeOf65 ?_);intro w st; dsimp only [setNth, wr] at st;refine a5 ?_
  rotate_left
  focus
   intro hc63;(try simp only [dn] at hc63);have hnn := hn hc63;have hM : n ≤ 9223372036854775807 := by rw [hc63] at hgr; have := of_decide_eq_false hgr.symm; omega
   refine a1 ?_;refine vdr0 Tryz.mixed [Yt 0, Yt 1, Yt 2, Yt 3, Yt 4, Yt 5, Yt 6, Yt 7, Yt 8, Yt 9, Yt 10, Yt 11, Yt 12, Yt 13, Yt 14, Yt 15, Yt 16, Yt 17, Yt 18, Yt 19, Nt 20, Yt 21, Yt 22] st ?_;clear st; intro w st hS;refine pm hS ?_;refine pnk hS ?_;refine pfz hS 1 Tryz.underlying122 Tryz.sizeOf3 ?_;refine pld hS 1 Tryz.isAgg3 ?_;refine pm hS ?_;refine pnk hS ?_;refine pf0 hS Tryz.underlying122 Tryz.sizeOf9 ?_;refine pld hS 1 Tryz.isAgg9 ?_;refine vp_take rfl rfl rfl hS (fun w st => y_lens rfl Tryz.underlying9) ?_;refine vp_take rfl rfl rfl hS (fun w st => y_lss rfl rfl) ?_;refine vp_part rfl rfl rfl hS rfl ?_ ?_
   focus
    intro hg97;(try simp only [dn] at hg97);refine pm hS ?_;refine pnk hS ?_;refine pf0 hS Tryz.underlying122 Tryz.sizeOf9 ?_;refine pld hS 1 Tryz.isAgg9 ?_;refine pm hS ?_;refine pnk hS ?_;refine pfz hS 1 Tryz.underlying122 Tryz.sizeOf3 ?_;refine pld hS 1 Tryz.isAgg3 ?_;refine vp_take rfl rfl rfl hS (fun w st => y_ixs (k := _) rfl rfl Tryz.underlying9 rfl (by omega)) ?_;refine vp_do rfl (e_call [_] rfl rfl Tryz.call85 rfl (letter_any _ _) ?_);rintro _ _ ⟨rfl, rfl⟩;refine vp_next (by exact st) ?_; intro hS;refine vp_take rfl rfl rfl hS (fun w st => y_pickt rfl rfl) ?_;refine vp_take rfl rfl rfl hS (fun w st => y_as rfl) ?_;refine vp_end (vq_then ?_);refine vif ?_ ?_;intro hc86;(try simp only [dn] at hc86);refine a5 ?_;refine yfz 1 Tryz.underlying122 Tryz.sizeOf3 ?_;refine yl st 1 Tryz.isAgg3 ?_;refine vc_e (e_call [_, _, _] rfl rfl Tryz.call119 rfl (wrong_any b s _ _ _ _ _ _ (st.res (i := 1) rfl)) ?_);rintro _ w ⟨rfl, cw, hw⟩;replace st := st.turn (i := 1) (r' := .blk b _) rfl rfl rfl cw (.inl (by simp)) hw;dsimp only [setNth] at st;refine vc_e (ests st 0 [_, _, _, _] Tryz.sizeOf65 ?_);intro w st; dsimp only [setNth, wr] at st;refine a5 ?_
    rotate_left
    intro hc86;(try simp only [dn] at hc86);refine a4 ?_;refine vdr Tryz.mixed [Yt 0, Yt 1, Yt 2, Yt 3, Yt 4, Yt 5, Yt 6, Yt 7, Yt 8, Yt 9, Yt 10, Yt 11, Yt 12, Yt 13, Nt 14] [.blk b (scn s j fa fr)] st ?_;clear st; intro w st hS;refine pm hS ?_;refine pnk hS ?_;refine pf0 hS Tryz.underlying122 Tryz.sizeOf9 ?_;refine pld hS 0 Tryz.isAgg9 ?_;(iterate 2 refine pm hS ?_);refine pnk hS ?_;refine pfz hS 1 Tryz.underlying122 Tryz.sizeOf3 ?_;refine pld hS 0 Tryz.isAgg3 ?_;refine vp_take rfl rfl rfl hS (fun w st => y_sls (i := _) (j := _) rfl rfl rfl Tryz.underlying9 rfl rfl (by omega) (by omega)) ?_;refine pm hS ?_;refine vp_take rfl rfl rfl hS (fun w st => y_cvi rfl Tryz.underlying2 Tryz.underlying126 (IntWalk.i64_in _ ⟨by omega, by omega⟩ : _ = (n : Int))) ?_;refine pm hS ?_;refine vp_take rfl rfl rfl hS (fun w st => ybd (.agg #[_, _, _, _]) [(0, _), (1, _), (2, _), (3, _)]) ?_;refine vp_do rfl (ests st 0 [_, _, _, _] Tryz.sizeOf65 ?_);intro w st; dsimp only [setNth, wr] at st;refine vp_next st.dr ?_; intro hS;refine vp_end (vq_then (vc_ret ?_))
   rotate_left 2
   intro hg97;(try simp only [dn] at hg97);(iterate 9 refine vp_skip rfl rfl rfl hS ?_);refine vp_do rfl (e_skip rfl rfl (vp_next hS (fun hS => ?_)));refine vp_take rfl rfl rfl hS (fun w st => y_pickf rfl rfl) ?_;refine vp_take rfl rfl rfl hS (fun w st => y_as rfl) ?_;refine vp_end (vq_then ?_);refine a5 ?_;refine vdr Tryz.mixed [Yt 0, Yt 1, Yt 2, Yt 3, Yt 4, Yt 5, Yt 6, Yt 7, Yt 8, Yt 9, Yt 10, Yt 11, Yt 12, Yt 13, Nt 14] [.blk b (scn s j fa fr)] st ?_;clear st; intro w st hS;refine pm hS ?_;refine pnk hS ?_;refine pf0 hS Tryz.underlying122 Tryz.sizeOf9 ?_;refine pld hS 0 Tryz.isAgg9 ?_;(iterate 2 refine pm hS ?_);refine pnk hS ?_;refine pfz hS 1 Tryz.underlying122 Tryz.sizeOf3 ?_;refine pld hS 0 Tryz.isAgg3 ?_;refine vp_take rfl rfl rfl hS (fun w st => y_sls (i := _) (j := _) rfl rfl rfl Tryz.underlying9 rfl rfl (by omega) (by omega)) ?_;refine pm hS ?_;refine vp_take rfl rfl rfl hS (fun w st => y_cvi rfl Tryz.underlying2 Tryz.underlying126 (IntWalk.i64_in _ ⟨by omega, by omega⟩ : _ = (n : Int))) ?_;refine pm hS ?_;refine vp_take rfl rfl rfl hS (fun w st => ybd (.agg #[_, _, _, _]) [(0, _), (1, _), (2, _), (3, _)]) ?_;refine vp_do rfl (ests st 0 [_, _, _, _] Tryz.sizeOf65 ?_);intro w st; dsimp only [setNth, wr] at st;refine vp_next st.dr ?_; intro hS;refine vp_end (vq_then (vc_ret ?_))
 all_goals
  refine vq_ret1 st (.inl rfl) Tryz.results84 (by exact .cell 0 rfl rfl Tryz.isAgg65 Tryz.sizeOf65) ?_;refine ⟨_, rfl, ?_⟩;have hlen : (List.take (j - i) (List.drop i s)).length = j - i := by simp; omega
  have hpos : i < j := by
   rcases Nat.lt_or_ge i j with h | h
   ·exact h
   ·exfalso
    rw [show j - i = 0 by omega, List.take_zero, drop_cons hi, List.takeWhile_cons, if_pos hd] at hT
    cases hT
  refine ⟨st.chg, ?_⟩;rw [tokAt_num hi hc hd, hT, hlen, show i + (j - i) = j by omega];have hr := st.res (i := 1) rfl
  first
  | (rw [if_pos (.inl ⟨by omega, u8_eq48 (by assumption)⟩)]; exact ⟨rfl, _, hr⟩)
  | (rw [if_pos (.inr (of_decide_eq_true (by rw [← hgr]; assumption)))]; exact ⟨rfl, _, hr⟩)
  | (have hNB : ¬((1 < j - i ∧ s.getD i 0 = 48) ∨ 9223372036854775807 < numVal (List.take (j - i) (List.drop i s))) := by
       rintro (⟨h1, h2⟩ | h2)
       · have h3 : ((s.getD i 0).toNat : Int) = 48 := by rw [h2]; rfl
         omega
       · omega
     rw [if_neg hNB]
     first
     | (rw [if_pos ⟨by omega, by assumption⟩]; exact ⟨rfl, _, hr⟩)
     | (rw [if_neg (by rintro ⟨h1, h2⟩; omega)]
        exact ⟨by rw [← hnn]; rfl, by dsimp only; rw [hlen, show i + (j - i) = j by omega]; exact hr⟩))
end Go.Proofs.YtjoepkpdanolkaaGreatDoor


namespace Go.Proofs.YtjoepkpdanolkaaGreatDoor
open Go.RowKit Sx LexS _root_.Go.Proofs.Tryz
abbrev tok4 (k : Int) (t : List UInt8) (wd a : Int) : List Value := [.int .u8 k, str t, .int .i64 wd, .int .i64 a]
/-- the same, its parts named -/
def RdFlat (s : List UInt8) (i : Nat) (fa fr : Int) (res : TokR) (k : Int) (t : List UInt8) (wd a j fa' fr' : Int) : Prop := match res with
 | .tok x => k = x.kind ∧ t = x.text ∧ wd = x.word ∧ a = x.at_ ∧ j = ((i + x.text.length : Nat) : Int) ∧ fa' = fa ∧ fr' = fr
 | .bad rule p => k = 0 ∧ t = [] ∧ wd = 0 ∧ a = 0 ∧ fa' = p ∧ fr' = rule
theorem rd_flat {b : Nat} {s : List UInt8} {i : Nat} {fa fr : Int} {res : TokR} {v : Value} {w' : World} (h : RdPost b s i fa fr res v w') :
    ∃ k t wd a j fa' fr', v = .agg (tok4 k t wd a).toArray ∧ w'.heap[b]? = some (scn s j fa' fr') ∧ RdFlat s i fa fr res k t wd a j fa' fr' := by
 cases res with
 | tok x => exact ⟨_, _, _, _, _, _, _, h.1, h.2, rfl, rfl, rfl, rfl, rfl, rfl, rfl⟩
 | bad rule p => obtain ⟨h1, j, h2⟩ := h; exact ⟨0, [], 0, 0, j, _, _, h1, h2, rfl, rfl, rfl, rfl, rfl, rfl⟩
theorem bad_rule {r : List UInt8} {i rule p : Nat} (h : tokAt r i = .bad rule p) : 1 ≤ rule ∧ rule ≤ 4 := by
 simp only [tokAt] at h
 (repeat' split at h) <;> first | (simp at h; done) | (simp at h; omega)
/-- what 'next' leaves: the token, or none -/
def NxPost (b : Nat) (s : List UInt8) (i : Nat) (v : Value) (w' : World) : Prop :=
 if s.length ≤ i + skip (s.drop i) then v = .tuple #[.agg zeroL.toArray, .bool false] ∧ ∃ j : Int, w'.heap[b]? = some (scn s j 0 0)
 else match tokAt (s.drop (i + skip (s.drop i))) (i + skip (s.drop i)) with
  | .tok x => v = .tuple #[.agg (tokL x).toArray, .bool true] ∧ w'.heap[b]? = some (scn s ((i + skip (s.drop i) + x.text.length : Nat) : Int) 0 0)
  | .bad rule p => v = .tuple #[.agg zeroL.toArray, .bool false] ∧ ∃ j : Int, w'.heap[b]? = some (scn s j (p : Int) (rule : Int))

set_option maxHeartbeats 1000000 in
theorem next_any (b : Nat) (s : List UInt8) (i : Nat) (w : World) (hb : w.heap[b]? = some (scn s i 0 0)) (hi : i ≤ s.length) (hs : s.length ≤ 3000000) :
    Ret Tryz.prog 34 [.pointer (some ⟨b, 0, none⟩)] w fun v w' => Chg [b] w w' ∧ NxPost b s i v w' := by
 refine ret_of [_] Tryz.func34 rfl Tryz.ntmps34 rfl ?_;have st := St.init w [b];have hle := skip_le (s.drop i);simp only [List.length_drop] at hle;replace st := St.of1 [b] hb;refine a2 ?_;refine vc_e (e_al (l := [_, _, _, _]) st rfl rfl Tryz.zeroValue65 rfl ?_);intro b2 w hb2 st;refine a6 ?_;refine vc_e (e_call [_] rfl rfl Tryz.call81 rfl (over_any b s i _ _ _ (st.res (i := 1) rfl) hi hs) ?_);rintro _ w ⟨rfl, cw, hw⟩;replace st := st.turn (i := 1) (r' := .blk b _) rfl rfl rfl cw (.inl (by simp)) hw;dsimp only [setNth] at st;have hi1 : i + skip (List.drop i s) ≤ s.length := by omega
 refine a4 ?_;refine vdr0 Tryz.mixed [Yt 0, Yt 1, Yt 2, Yt 3, Yt 4, Yt 5, Yt 6, Yt 7, Yt 8, Yt 9] st ?_;clear st; intro w st hS;refine pm hS ?_;refine pnk hS ?_;refine pfz hS 1 Tryz.underlying122 Tryz.sizeOf3 ?_;refine pld hS 1 Tryz.isAgg3 ?_;refine pm hS ?_;refine pnk hS ?_;refine pf0 hS Tryz.underlying122 Tryz.sizeOf9 ?_;refine pld hS 1 Tryz.isAgg9 ?_;refine vp_take rfl rfl rfl hS (fun w st => y_lens rfl Tryz.underlying9) ?_;refine vp_take rfl rfl rfl hS (fun w st => y_geq rfl rfl) ?_;refine vp_end (vq_then ?_);refine vif ?_ ?_;intro hc19;(try simp only [dn] at hc19);refine a2 ?_;refine vy (ybd (.agg #[_, _, _, _]) []) ?_;refine vc_e (ests st 0 [_, _, _, _] Tryz.sizeOf65 ?_);intro w st; dsimp only [setNth, wr] at st;refine a5 ?_;refine vq_ret2 st (.inl rfl) Tryz.results34 (by exact .cell 0 rfl rfl Tryz.isAgg65 Tryz.sizeOf65) (.tmp rfl) ?_;refine ⟨_, rfl, ?_⟩;refine ⟨st.chg, ?_⟩;unfold NxPost;rw [if_pos (by omega)];exact ⟨rfl, _, st.res (i := 1) rfl⟩;intro hc19;(try simp only [dn] at hc19);refine a5 ?_;refine vy (y_mf [_] [] rfl rfl) ?_;refine a1 ?_;refine vy (y_mf [_] [] rfl rfl) ?_;refine a1 ?_;refine vy (y_mf [_] [] rfl rfl) ?_;refine vy (ybd (.agg #[_, _, _]) [(0, _), (1, _), (2, _)]) ?_;refine vc_e (e_al (l := [_, _, _]) st rfl rfl Tryz.zeroValue156 rfl ?_);intro b4 w hb4 st;refine vc_e (ests st 0 [_, _, _] Tryz.sizeOf156 ?_);intro w st; dsimp only [setNth, wr] at st;refine a9 ?_;refine vdr0 Tryz.mixed [Yt 0, Yt 1, Yt 2, Yt 3, Yt 4, Yt 5, Yt 6, Yt 7, Yt 8, Yt 9] st ?_;clear st; intro w st hS;refine pm hS ?_;refine pnk hS ?_;refine pf0 hS Tryz.underlying122 Tryz.sizeOf9 ?_;refine pld hS 2 Tryz.isAgg9 ?_;refine pm hS ?_;refine pnk hS ?_;refine pfz hS 1 Tryz.underlying122 Tryz.sizeOf3 ?_;refine pld hS 2 Tryz.isAgg3 ?_;refine vp_take rfl rfl rfl hS (fun w st => y_ixs (k := _) rfl rfl Tryz.underlying9 rfl (by omega)) ?_;refine vp_take rfl rfl rfl hS (fun w st => y_as rfl) ?_;refine vp_end (vq_then (vc_block (sr ?_)));refine a1 ?_;refine vc_e (e_call [_] rfl rfl Tryz.call85 rfl (letter_any _ _) ?_);rintro _ _ ⟨rfl, rfl⟩;refine a3 ?_;refine vif ?_ ?_;intro hc37;(try simp only [dn] at hc37);refine a8 ?_;refine vy (y_iaa (k := 1) rfl rfl Tryz.underlying156 Tryz.sizeOf128 rfl (by omega)) ?_;refine yl st 0 Tryz.isAgg128 ?_;refine vc_e (e_callv [] rfl rfl rfl Tryz.call83 rfl (word_rd b s _ _ _ _ (st.res (i := 2) rfl) (by omega) hs (by assumption)) ?_)
 rotate_left
 focus
  intro hc37;(try simp only [dn] at hc37);refine a3 ?_;refine vc_e (e_call [_] rfl rfl Tryz.call86 rfl (digit_any _ _) ?_);rintro _ _ ⟨rfl, rfl⟩;refine a3 ?_;refine vif ?_ ?_;intro hc40;(try simp only [dn] at hc40);refine a8 ?_;refine vy (y_iaa (k := 2) rfl rfl Tryz.underlying156 Tryz.sizeOf128 rfl (by omega)) ?_;refine yl st 0 Tryz.isAgg128 ?_;refine vc_e (e_callv [] rfl rfl rfl Tryz.call84 rfl (number_rd b s _ _ _ _ (st.res (i := 2) rfl) (by omega) hs (by assumption) (by assumption)) ?_)
  rotate_left
  intro hc40;(try simp only [dn] at hc40);refine a6 ?_;refine vy (y_iaa (k := 0) rfl rfl Tryz.underlying156 Tryz.sizeOf128 rfl (by omega)) ?_;refine yl st 0 Tryz.isAgg128 ?_;refine vc_e (e_callv [] rfl rfl rfl Tryz.call82 rfl (sign_rd b s _ _ _ _ (st.res (i := 2) rfl) (by omega) hs (by assumption) (by assumption)) ?_)
 all_goals
  rintro _ w ⟨cw, hp⟩;obtain ⟨k, t, wd, a, j, fa', fr', rfl, hw, hf⟩ := rd_flat hp;replace st := st.turn (i := 2) (r' := .blk b _) rfl rfl rfl cw (.inl (by simp)) hw;dsimp only [setNth] at st;refine vc_e (e_al (l := [_, _, _, _]) st rfl rfl Tryz.zeroValue65 rfl ?_);intro b7 w hb7 st;refine vc_e (ests st 0 [_, _, _, _] Tryz.sizeOf65 ?_);intro w st; dsimp only [setNth, wr] at st;refine a3 ?_;refine vdr Tryz.mixed [Yt 0, Yt 1, Yt 2, Yt 3, Yt 4, Yt 5, Yt 6, Nt 7, Yt 8] [.blk b7 (.cells (tok4 k t wd a).toArray 65 (0, 0)), .blk b (scn s j fa' fr')] st ?_;clear st; intro w st hS;refine vp_take rfl rfl rfl hS (fun w st => y_lda (vs := [_, _, _, _]) st 0 rfl Tryz.isAgg65 Tryz.sizeOf65 rfl rfl) ?_;refine pm hS ?_;refine pnk hS ?_;refine pfz hS 2 Tryz.underlying122 Tryz.sizeOf30 ?_;refine vp_take rfl rfl rfl hS (fun w st => y_fa (k := 1) rfl Tryz.underlying30 rfl rfl Tryz.sizeOf3 rfl) ?_;refine pld hS 1 Tryz.isAgg3 ?_;refine vp_take rfl rfl rfl hS (fun w st => y_eqi rfl rfl) ?_;refine vp_do rfl (ests st 2 [_, _, _, _] Tryz.sizeOf65 ?_);intro w st; dsimp only [setNth, wr] at st;refine vp_next st.dr ?_; intro hS;refine vp_take rfl rfl rfl hS (fun w st => y_as rfl) ?_;refine vp_end (vq_then (vc_ret ?_));refine vq_ret2 st (.inl rfl) Tryz.results34 (by exact .cell 2 rfl rfl Tryz.isAgg65 Tryz.sizeOf65) (.tmp rfl) ?_;refine ⟨_, rfl, ?_⟩;refine ⟨st.chg, ?_⟩;unfold NxPost;rw [if_neg (by omega)];have hr := st.res (i := 3) rfl
  cases hR : tokAt (List.drop (i + skip (List.drop i s)) s) (i + skip (List.drop i s)) with
  | tok x => rw [hR] at hf; obtain ⟨rfl, rfl, rfl, rfl, rfl, rfl, rfl⟩ := hf; exact ⟨rfl, hr⟩
  | bad rule p =>
   have hb' := bad_rule hR
   rw [hR] at hf; obtain ⟨rfl, rfl, rfl, rfl, rfl, rfl⟩ := hf
   refine ⟨?_, _, hr⟩
   rw [show (decide ((rule : Int) = 0)) = false from by simp; omega]
end Go.Proofs.YtjoepkpdanolkaaGreatDoor


namespace Go.Proofs.YtjoepkpdanolkaaGreatDoor
open Go.RowKit Sx LexS _root_.Go.Proofs.Tryz
theorem Tryz.info65 : Tryz.prog.info? 65 = some Tryz.t65 := by kernel_rfl
def toksL (l : List Tok) : List Value := l.flatMap tokL
theorem toksL_snoc (l : List Tok) (t : Tok) : toksL (l ++ [t]) = toksL l ++ tokL t := by simp [toksL]
def NxRel (s : List UInt8) (i : Nat) (k : Int) (t : List UInt8) (wd a : Int) (ok : Bool) (j fa fr : Int) : Prop :=
 (ok = true ∧ ∃ x : Tok, i + skip (s.drop i) < s.length ∧ tokAt (s.drop (i + skip (s.drop i))) (i + skip (s.drop i)) = .tok x ∧ k = x.kind ∧ t = x.text ∧ wd = x.word ∧ a = x.at_ ∧ j = ((i + skip (s.drop i) + x.text.length : Nat) : Int) ∧ fa = 0 ∧ fr = 0) ∨
 (ok = false ∧ s.length ≤ i + skip (s.drop i) ∧ fa = 0 ∧ fr = 0) ∨
 (ok = false ∧ ∃ rule p : Nat, i + skip (s.drop i) < s.length ∧ tokAt (s.drop (i + skip (s.drop i))) (i + skip (s.drop i)) = .bad rule p ∧ fa = p ∧ fr = rule)
theorem nx_flat {b : Nat} {s : List UInt8} {i : Nat} {v : Value} {w' : World} (h : NxPost b s i v w') :
    ∃ k t wd a ok j fa fr, v = .tuple [.agg (tok4 k t wd a).toArray, .bool ok].toArray ∧ w'.heap[b]? = some (scn s j fa fr) ∧ NxRel s i k t wd a ok j fa fr := by
 unfold NxPost at h;split at h;rename_i hle;obtain ⟨h1, j, h2⟩ := h;exact ⟨0, [], 0, 0, false, j, 0, 0, h1, h2, .inr (.inl ⟨rfl, hle, rfl, rfl⟩)⟩;rename_i hlt;split at h;rename_i x hx;obtain ⟨h1, h2⟩ := h;exact ⟨_, _, _, _, true, _, 0, 0, h1, h2, .inl ⟨rfl, x, by omega, hx, rfl, rfl, rfl, rfl, rfl, rfl, rfl⟩⟩;rename_i rule p hx;obtain ⟨h1, j, h2⟩ := h;exact ⟨0, [], 0, 0, false, j, _, _, h1, h2, .inr (.inr ⟨rfl, rule, p, by omega, hx, rfl, rfl⟩)⟩
/-- what 'Scan' hands back -/
def ScanPost (s : List UInt8) (w : World) (v : Value) (w' : World) : Prop :=
 Chg [] w w' ∧ ∃ oa cap, v = .tuple [.slice oa (scanRes s).1.length cap, .int .i64 ((scanRes s).2.1 : Int), .agg [.int .i64 ((scanRes s).2.2.1 : Int), .int .i64 ((scanRes s).2.2.2 : Int)].toArray].toArray ∧
  w'.ownsRow w.heap.size 65 4 (.slice oa (scanRes s).1.length cap) (scanRes s).1.length (toksL (scanRes s).1)
set_option maxHeartbeats 1000000 in
theorem scan_any (s : List UInt8) (w : World) : Ret Tryz.prog 15 [str s] w (ScanPost s w) := by
 refine ret_of [_] Tryz.func15 rfl Tryz.ntmps15 rfl ?_;have st := St.init w [];refine a4 ?_;refine vc_e (e_al (l := [_, _]) st rfl rfl Tryz.zeroValue30 rfl ?_);intro b4 w hb4 st;refine a6 ?_;refine vy (y_lens rfl Tryz.underlying9) ?_;refine a3 ?_;refine vif ?_ ?_;intro hc11;(try simp only [dn] at hc11);refine a2 ?_;refine vy (ybd (.agg #[_, _]) []) ?_;refine a2 ?_;refine vc_e (ests st 0 [_, _] Tryz.sizeOf30 ?_);intro w st; dsimp only [setNth, wr] at st;refine a4 ?_;refine vq_ret3 st (.inl rfl) Tryz.results15 (.tmp rfl) (.tmp rfl) (by exact .cell 0 rfl rfl Tryz.isAgg30 Tryz.sizeOf30) ?_;refine ⟨_, rfl, ?_⟩;have e : scanRes s = ([], 4, 0, 0) := by unfold scanRes; rw [if_pos (by omega)]
 refine ⟨st.chg, none, 0, ?_, ?_⟩;rw [e]; rfl;rw [e]; exact World.ownsRow_nil _ _ _ _;intro hc11;(try simp only [dn] at hc11);replace st := st.ownNil 65 4;refine a5 ?_;refine vy (ybd (.agg #[_, _, _, _]) [(0, _)]) ?_;refine vc_e (e_bx (l := [_, _, _, _]) st rfl rfl rfl rfl ?_);intro b15 w hb15 st;refine a10 ?_;refine vc_loop (w0 := _) (M := _) (fun (x : List Tok × Nat × Option Addr × Nat) => [(4, .pointer (some ⟨b4, 0, none⟩)), (5, .pointer (some ⟨b15, 0, none⟩)), (6, .slice x.2.2.1 x.1.length x.2.2.2)]) (fun x => [.blk b15 (scn s x.2.1 0 0), .own (.slice x.2.2.1 x.1.length x.2.2.2) 65 4 x.1.length (toksL x.1), .blk b4 (.cells [.int .i64 0, .int .i64 0].toArray 30 (0, 0))]) (fun x _ => x.2.1 ≤ s.length ∧ x.1.length ≤ x.2.1 ∧ (front s).1 = x.1 ++ (scanA (s.drop x.2.1) x.2.1).1 ∧ (front s).2 = (scanA (s.drop x.2.1) x.2.1).2) (fun x => s.length - x.2.1) ([], 0, none, 0) ⟨rfl, rfl, rfl, trivial⟩ st ⟨by simp, by simp, by simp [front_eq], by simp [front_eq]⟩ ?_;rintro ⟨l, i, oa, cap⟩ w ⟨hi, hli, hf1, hf2⟩ st;dsimp only at *;refine a4 ?_;refine vc_e (e_call [_] rfl rfl Tryz.call34 rfl (next_any b15 s i _ (st.res (i := 0) rfl) hi (by omega)) ?_);rintro _ w ⟨cw, hp⟩;obtain ⟨k, t, wd, a, ok, j, fa, fr, rfl, hw, hrel⟩ := nx_flat hp;replace st := st.turn (i := 0) (r' := .blk b15 _) rfl rfl rfl cw (.inr (by assumption)) hw;dsimp only [setNth] at st;refine a3 ?_;refine vc_e (e_al (l := [_, _, _, _]) st rfl rfl Tryz.zeroValue65 rfl ?_);intro b7 w hb7 st;refine vc_e (ests st 0 [_, _, _, _] Tryz.sizeOf65 ?_);intro w st; dsimp only [setNth, wr] at st;refine a10 ?_;refine vif ?_ ?_;intro hc22;(try simp only [dn] at hc22);refine a11 ?_;refine yfz 2 Tryz.underlying122 Tryz.sizeOf30 ?_;refine vy (y_fa (k := 1) rfl Tryz.underlying30 rfl rfl Tryz.sizeOf3 rfl) ?_;refine yl st 1 Tryz.isAgg3 ?_;refine a3 ?_;refine vif ?_ ?_;intro hc32;(try simp only [dn] at hc32);refine a1 ?_;refine vdr Tryz.mixed [Yt 0, Yt 1, Yt 2, Yt 3, Yt 4, Yt 5, Nt 6] [.blk b15 (scn s j fa fr)] st ?_;clear st; intro w st hS;refine pm hS ?_;refine pnk hS ?_;refine pfz hS 2 Tryz.underlying122 Tryz.sizeOf30 ?_;refine vp_take rfl rfl rfl hS (fun w st => y_lda (vs := [_, _]) st 0 rfl Tryz.isAgg30 Tryz.sizeOf30 rfl rfl) ?_;(iterate 2 refine vp_take rfl rfl rfl hS (fun w st => y_as rfl) ?_);refine vp_do rfl (ests st 3 [_, _] Tryz.sizeOf30 ?_);intro w st; dsimp only [setNth, wr] at st;refine vp_next st.dr ?_; intro hS;refine vp_end (vq_then (vc_ret (vq_then_ret ?_)));refine vq_ret3 st (.inl rfl) Tryz.results15 (.tmp rfl) (.tmp rfl) (by exact .cell 3 rfl rfl Tryz.isAgg30 Tryz.sizeOf30) ?_;refine ⟨_, rfl, ?_⟩;rcases hrel with ⟨h, _⟩ | ⟨_, _, _, h⟩ | ⟨_, rule, p, hlt, hx, rfl, rfl⟩
 simp [h] at hc22;exact absurd h hc32;have hsc := scanA_bad (r := s.drop i) (i := i) (by simp; omega) (by rw [List.drop_drop]; exact hx);have e : scanRes s = ([], 20, p, rule) := by unfold scanRes; rw [if_neg (by omega), hf2, hsc]
 refine ⟨st.chg, none, 0, ?_, ?_⟩;rw [e]; rfl;rw [e]; exact World.ownsRow_nil _ _ _ _;intro hc32;(try simp only [dn] at hc32);refine a5 ?_;refine vy (ybd (.agg #[_, _]) []) ?_;refine a2 ?_;refine vc_e (ests st 3 [_, _] Tryz.sizeOf30 ?_);intro w st; dsimp only [setNth, wr] at st;refine a3 ?_;refine vq_ret3 st (.inl rfl) Tryz.results15 (.tmp rfl) (.tmp rfl) (by exact .cell 3 rfl rfl Tryz.isAgg30 Tryz.sizeOf30) ?_;refine ⟨_, rfl, ?_⟩;rcases hrel with ⟨h, _⟩ | ⟨_, hle, _, h⟩ | ⟨_, rule, p, hlt, hx, rfl, rfl⟩
 simp [h] at hc22;have hsc := scanA_end (r := s.drop i) (i := i) (by simp; omega);have e : scanRes s = (l, 0, 0, 0) := by unfold scanRes; rw [if_neg (by omega), hf2, hsc, hf1, hsc]; simp
 refine ⟨st.chg, oa, cap, ?_, ?_⟩;rw [e]; rfl;rw [e]; exact st.res (i := 2) rfl;have := bad_rule hx; omega;intro hc22;(try simp only [dn] at hc22);refine a4 ?_;refine yla st 0 [_, _, _, _] Tryz.isAgg65 Tryz.sizeOf65 ?_;refine vc_e (e_bs1 (l := [_, _, _, _]) st rfl rfl rfl rfl Tryz.underlying59 Tryz.sizeOf65 rfl rfl rfl Tryz.zeroValue65 ?_);intro b25 w hb25 st;refine vc_e (e_app (bytes := 40) st 3 0 rfl rfl rfl rfl rfl rfl Tryz.underlying59 Tryz.info65 rfl rfl rfl rfl rfl (by simp) rfl rfl (by unfold maxLen; omega) (by omega) ?_);intro oa26 cap26 w st; dsimp only [setNth] at st;refine a3 ?_;rcases hrel with ⟨_, x, hlt, hx, rfl, rfl, rfl, rfl, rfl, rfl, rfl⟩ | ⟨h, _⟩ | ⟨h, _⟩
 have hx1 := tok_len hx;have hxl : x.text.length ≤ s.length - (i + skip (List.drop i s)) := by have h := congrArg List.length hx1.2.1; simp at h; omega
 have hsc := scanA_tok (r := s.drop i) (i := i) (by simp; omega) (by rw [List.drop_drop]; exact hx);rw [List.drop_drop, ← Nat.add_assoc] at hsc;refine vq_again (l ++ [x], i + skip (List.drop i s) + x.text.length, oa26, cap26) ⟨rfl, rfl, by simp only [List.length_append, List.length_cons, List.length_nil]; rfl, trivial⟩ ?_ ⟨by dsimp only; omega, by simp; omega, ?_, ?_⟩ (by dsimp only; omega);simp only [List.length_append, List.length_cons, List.length_nil, toksL_snoc];exact st.dr;rw [hf1, hsc]; simp;rw [hf2, hsc];simp [h] at hc22;simp [h] at hc22
end Go.Proofs.YtjoepkpdanolkaaGreatDoor


/- The tokens of a text: how many, and of what kinds. -/
namespace ParS
open Sx LexS
theorem numV_le {l : List UInt8} {n : Nat} (h : numV l = some n) : n ≤ 9223372036854775807 := by
  unfold numV at h
  split at h
  · cases h
  · rename_i hc
    cases h
    rw [not_or, not_or, not_or] at hc
    omega
theorem scan_ok : ∀ (T : List Tok) (r : List UInt8) (i : Nat) (f : Option (Nat × Nat)), scanA r i = (T, f) → T.length ≤ r.length ∧ ∀ t ∈ T, (t.kind = 1 → isName t.text = true) ∧ t.word ≤ 9223372036854775807 ∧ t.at_ ≤ i + r.length
  | [], r, i, f, h => ⟨Nat.zero_le _, by simp⟩
  | t :: T, r, i, f, h => by
    obtain ⟨h1, h2, h3⟩ := scan_inv h
    obtain ⟨h4, h5, h6⟩ := tok_len h2
    obtain ⟨h7, h8⟩ := scan_ok T _ _ _ h3
    rw [List.length_drop] at h7 h8
    have h9 : t.text.length ≤ r.length - skip r := by
      have := congrArg List.length h5
      rw [List.length_take, List.length_drop] at this
      omega
    refine ⟨by simp only [List.length_cons]; omega, fun x hx => ?_⟩
    rcases List.mem_cons.1 hx with rfl | hx
    · refine ⟨fun hk => ?_, ?_, by omega⟩
      · rcases tok_right h2 with h | h | h | h
        · exact h.2.1
        · omega
        · omega
        · omega
      · rcases tok_right h2 with h | h | h | h
        · omega
        · omega
        · exact numV_le h.2
        · omega
    · obtain ⟨a, b, c⟩ := h8 x hx
      exact ⟨a, b, by omega⟩
theorem front_ok {s : List UInt8} {T : List Tok} {f : Option (Nat × Nat)} (h : front s = (T, f)) : T.length ≤ s.length ∧ ∀ t ∈ T, (t.kind = 1 → isName t.text = true) ∧ t.word ≤ 9223372036854775807 ∧ t.at_ ≤ s.length := by
  rw [front_eq] at h
  have := scan_ok T s 0 f h
  simpa using this
end ParS


namespace Go.Proofs.YtjoepkpdanolkaaGreatDoor.Pq
open Go.RowKit Sx LexS ParS _root_.Go.Proofs.Tryz
theorem toks_chunk : ∀ {ts : List Tok} {j : Nat} {t : Tok}, ts[j]? = some t → ((toksL ts).drop (j * 4)).take 4 = tkL t
 | [], j, t, h => by simp at h
 | x :: r, 0, t, h => by
  simp only [List.getElem?_cons_zero, Option.some.injEq] at h
  subst h
  simp [toksL, tokL]
 | x :: r, j + 1, t, h => by
  have e : toksL (x :: r) = tokL x ++ toksL r := by simp [toksL]
  rw [e, show (j + 1) * 4 = (tokL x).length + j * 4 by simp [tokL]; omega, ← List.drop_drop, List.drop_left]
  exact toks_chunk (by simpa using h)
/-- a parser at a text's beginning -/
structure PNew (s : List UInt8) (n : Nat) (c : PCtx) (w' : World) : Prop where
 R : c.R = 70
 g : c.g = 0
 ts : c.ts = (front s).1
 e : c.e = s.length
 n0 : c.n0 = c.pb
 own : w'.ownsRow n 65 4 (.slice c.oa c.ts.length c.cap) c.ts.length (toksL c.ts)
 at_ : PAt c c.ts w'
 le : n ≤ c.pb
 lt : ∀ b ∈ obk c.oa, b < c.pb
 slen : s.length ≤ 65536
theorem PNew.ok {s : List UInt8} {n base : Nat} {c : PCtx} {r : List Tok} {w w' : World} (h : PNew s n c w) (hrow : w'.ownsRow base 65 4 (.slice c.oa c.ts.length c.cap) c.ts.length (toksL c.ts)) (hs : SigAt 0 w') (hp : PAt c r w') (h0 : 0 < n) : PCok c w' := by
 obtain ⟨hlen, hok⟩ := front_ok (s := s) (T := (front s).1) (f := (front s).2) rfl;rw [← h.ts] at hlen hok;have := h.slen;refine ⟨?_, by rw [h.n0]; exact Nat.le_refl _, by rw [h.g, h.n0]; exact Nat.lt_of_lt_of_le h0 h.le, by omega, by rw [h.e]; omega, by rw [h.g]; exact hs, by rw [h.n0]; exact Nat.le_of_lt (Array.getElem?_eq_some_iff.1 hp).1, fun t ht => (hok t ht).2.1⟩;refine (rowC_own (S := (· < c.n0)) (owns_mono hrow (fun b _ => Nat.zero_le _)) (fun b hb => by rw [h.n0]; exact h.lt b hb)).imp id fun ⟨g, off, e1, hb, hl, hc⟩ => ⟨g, off, e1, hb, hl, fun j hj => ?_⟩
 have := hc j hj;dsimp only at this;rw [toks_chunk (List.getElem?_eq_getElem hj)] at this;simpa only [List.getD, List.getElem?_eq_getElem hj, Option.getD_some] using this
def BegunPost (s : List UInt8) (w : World) (v : Value) (w' : World) : Prop := Chg [] w w' ∧
 ((65536 < s.length ∧ v = .tuple #[.pointer none, .int .i64 4, .agg #[.int .i64 0, .int .i64 0]]) ∨
  (s.length ≤ 65536 ∧ ∃ rule p : Nat, (front s).2 = some (rule, p) ∧ v = .tuple #[.pointer none, .int .i64 30, .agg #[.int .i64 (p : Int), .int .i64 1]]) ∨
  (s.length ≤ 65536 ∧ (front s).2 = none ∧ ∃ c, PNew s w.heap.size c w' ∧ v = .tuple #[.pointer (some ⟨c.pb, 0, none⟩), .int .i64 0, .agg #[.int .i64 0, .int .i64 0]]))

theorem begun_any (s : List UInt8) (w : World) (hs : SigAt 0 w) : Ret Tryz.prog 17 [str s] w (BegunPost s w) := by
 refine ret_of [_] Tryz.func17 rfl Tryz.ntmps17 rfl ?_;have st := St.init w [];obtain ⟨w0, rfl⟩ : ∃ w0, w0 = w := ⟨_, rfl⟩
 refine a4 ?_;refine vc_e (e_al (l := [_, _]) st rfl rfl Tryz.zeroValue30 rfl ?_);intro b4 w hb4 st;refine a5 ?_;refine vc_e (e_call [_] rfl rfl Tryz.call15 rfl (scan_any s _) ?_);rintro _ w ⟨cw, tq, tc, rfl, hown⟩;replace st := St.pushOwn st cw hown;obtain ⟨T, e, pl, ru, hT⟩ : ∃ T e pl ru, scanRes s = (T, e, pl, ru) := ⟨_, _, _, _, rfl⟩
 rw [hT] at st hown ⊢;dsimp only at st hown ⊢;refine a4 ?_;refine vc_e (e_al (l := [_, _]) st rfl rfl Tryz.zeroValue30 rfl ?_);intro b7 w hb7 st;refine a2 ?_;refine vc_e (ests st 0 [_, _] Tryz.sizeOf30 ?_);intro w st; dsimp only [setNth, wr] at st;refine a15 ?_;refine vif ?_ ?_;intro hc15;(try simp only [dn] at hc15);have he : e = 0 := by omega
 subst he
 have hsc : s.length ≤ 65536 ∧ (front s).2 = none ∧ T = (front s).1 := by
  unfold scanRes at hT
  split at hT
  ·cases hT
  ·rename_i hl
   split at hT
   ·rename_i hf; simp only [Prod.mk.injEq] at hT; exact ⟨by omega, hf, hT.1.symm⟩
   ·cases hT
 obtain ⟨hle, hfr, rfl⟩ := hsc;obtain ⟨hlen, hok⟩ := front_ok (s := s) (T := (front s).1) (f := (front s).2) rfl;refine a4 ?_;refine vy (y_lens rfl Tryz.underlying9) ?_;refine vy (ybd (.agg #[_, _, _]) [(0, _), (2, _)]) ?_;have hbt : ∀ b ∈ obk tq, b < w.heap.size := fun b hb => (owns_lt (st.res (i := 1) rfl) b hb).2
 refine vc_e (e_bxn (l := [_, _, _]) st rfl rfl rfl rfl ?_);intro b21 w hbe hb21 st;refine vy (ybd (.agg #[_, _]) []) ?_;refine a2 ?_;refine vc_e (ests st 3 [_, _] Tryz.sizeOf30 ?_);intro w st; dsimp only [setNth, wr] at st;refine a5 ?_;refine vq_ret3 st (.inl rfl) Tryz.results17 (.tmp rfl) (.tmp rfl) (by exact .cell 3 rfl rfl Tryz.isAgg30 Tryz.sizeOf30) ?_;refine ⟨_, rfl, ?_⟩;refine ⟨st.chg, .inr (.inr ⟨hle, hfr, ⟨b21, b21, tq, tc, (front s).1, s.length, 73, 70, 0⟩, ⟨rfl, rfl, rfl, rfl, rfl, st.res (i := 2) rfl, ?_, hb21, ?_, hle⟩, rfl⟩)⟩;show w.heap[b21]? = _;have h2 : w.heap[b21]? = some (.cells [.slice tq (front s).1.length tc, .int .i64 0, .int .i64 (s.length : Int)].toArray 73 (0, 0)) := st.res (i := 0) rfl;rw [h2]; simp [pcell];intro b hb; show b < b21; rw [hbe]; exact hbt b hb;intro hc15;(try simp only [dn] at hc15);refine a6 ?_;refine vif ?_ ?_;intro hc23;(try simp only [dn] at hc23);have he : e = 4 := by omega
 have hsc : 65536 < s.length := by
  unfold scanRes at hT
  split at hT
  ·assumption
  ·split at hT
   ·simp only [Prod.mk.injEq] at hT; omega
   ·simp only [Prod.mk.injEq] at hT; omega
 refine a3 ?_;refine vy (ybd (.agg #[_, _]) []) ?_;refine a2 ?_;refine vc_e (ests st 2 [_, _] Tryz.sizeOf30 ?_);intro w st; dsimp only [setNth, wr] at st;refine a5 ?_;refine vq_ret3 st (.inl rfl) Tryz.results17 (.tmp rfl) (.tmp rfl) (by exact .cell 2 rfl rfl Tryz.isAgg30 Tryz.sizeOf30) ?_;refine ⟨_, rfl, ?_⟩;refine ⟨st.chg, .inl ⟨hsc, ?_⟩⟩;rw [he]; rfl;intro hc23;(try simp only [dn] at hc23)
 have hsc : s.length ≤ 65536 ∧ (front s).2 = some (ru, pl) := by
  unfold scanRes at hT
  split at hT
  ·simp only [Prod.mk.injEq] at hT; omega
  ·rename_i hl
   split at hT
   ·simp only [Prod.mk.injEq] at hT; omega
   ·rename_i hf; simp only [Prod.mk.injEq] at hT
    obtain ⟨-, -, rfl, rfl⟩ := hT
    exact ⟨by omega, hf⟩
 refine a4 ?_;refine vdr Tryz.mixed [Yt 0, Yt 1, Yt 2, Yt 3, Yt 4, Nt 5] [.blk b7 (.cells [.int .i64 (pl : Int), .int .i64 (ru : Int)].toArray 30 (0, 0))] st ?_;clear st; intro w st hS;refine pf0 hS Tryz.underlying30 Tryz.sizeOf3 ?_;refine pld hS 0 Tryz.isAgg3 ?_;refine vp_take rfl rfl rfl hS (fun w st => ybd (.agg #[_, _]) [(0, _), (1, _)]) ?_;(iterate 2 refine vp_take rfl rfl rfl hS (fun w st => y_as rfl) ?_);refine vp_do rfl (ests st 2 [_, _] Tryz.sizeOf30 ?_);intro w st; dsimp only [setNth, wr] at st;refine vp_next st.dr ?_; intro hS;refine vp_end (vq_then (vc_ret ?_));refine vq_ret3 st (.inl rfl) Tryz.results17 (.tmp rfl) (.tmp rfl) (by exact .cell 2 rfl rfl Tryz.isAgg30 Tryz.sizeOf30) ?_;refine ⟨_, rfl, ?_⟩;exact ⟨st.chg, .inr (.inl ⟨hsc.1, ru, pl, hsc.2, rfl⟩)⟩
end Go.Proofs.YtjoepkpdanolkaaGreatDoor.Pq


namespace Go.Proofs.YtjoepkpdanolkaaGreatDoor.Pq
open Go.RowKit Sx LexS ParS _root_.Go.Proofs.Tryz
abbrev pg00 : List Value := [.slice none 0 0, .slice none 0 0, .slice none 0 0]

set_option maxHeartbeats 1000000 in
theorem parse_catch (b2 b3 b4 p ru : Nat) (e : Int) (w : World) (h2 : w.heap[b2]? = some (.cells pg00.toArray 81 (0, 0))) (h3 : w.heap[b3]? = some (.cells [.int .i64 e].toArray 28 (0, 0))) (h4 : w.heap[b4]? = some (.cells [.int .i64 0, .int .i64 0].toArray 30 (0, 0)))
    (n1 : b2 ≠ b3) (n2 : b2 ≠ b4) (n3 : b3 ≠ b4) : DefCatch Tryz.prog 46 [.pointer (some ⟨b2, 0, none⟩), .pointer (some ⟨b3, 0, none⟩), .pointer (some ⟨b4, 0, none⟩)].toArray (.iface 70 (.agg #[.int .i64 (p : Int), .int .i64 (ru : Int)])) w
  (fun w' => w'.heap[b2]? = some (.cells pg00.toArray 81 (0, 0)) ∧ w'.heap[b3]? = some (.cells [.int .i64 30].toArray 28 (0, 0)) ∧ w'.heap[b4]? = some (.cells [.int .i64 (p : Int), .int .i64 (ru : Int)].toArray 30 (0, 0)) ∧ Chg [b2, b3, b4] w w') := by
 refine callsD_of_wpS Tryz.func46 rfl fun c₀ cs hu => ?_
 have st := St.of3 [b2, b3, b4] h2 h3 h4 n1 n2 n3;apply wpS_seq;apply wpS_region;simp [wpOpsS, go_sem, recoverD, hu, Tryz.ntmps46, Exit.thenS];apply wpS_seq;apply wpS_region;simp [wpOpsS, go_sem, Exit.thenS];refine wpS_cond (t := true) (by simp [Act.eval, Array.replicate]) ?_;simp only [if_true];refine wpS_of_wp ?_;refine wp_of_vc (n := (11, [])) (kn := [(0, .pointer (some ⟨b2, 0, none⟩)), (1, .pointer (some ⟨b3, 0, none⟩)), (2, .pointer (some ⟨b4, 0, none⟩)), (3, .iface 70 (.agg #[.int .i64 (p : Int), .int .i64 (ru : Int)]))]) (K.of (by rfl) ?_) ?_
 ·intro i v hv;simp only [find] at hv
  repeat' split at hv
  all_goals first | (rename_i hh; have hh' := Nat.eq_of_beq_eq_true hh; subst hh'; cases hv; rfl) | simp at hv
 refine ddr Tryz.mixed (.take 0 (.take 1 (.two 2 4 (.take 3 (.one 4 (.one 5 (.one 6 .done)))) (.two 2 5 (.take 3 (.one 5 (.one 6 .done))) (.one 2 (.take 3 (.one 6 .done))))))) [] st ?_;clear st; intro w st hS;refine vd_take rfl rfl rfl hS (fun w st => ybd (.agg #[_, _, _]) []) ?_;refine dm hS ?_;refine vd_two rfl rfl ?_ ?_;refine (e_run rfl rfl (y_ta rfl Tryz.underlying70) ?_);refine vd_next st.dr ?_; intro hS;refine vd_take rfl rfl rfl hS (fun w st => y_fldA (vs := [_, _]) rfl Tryz.underlying70 rfl rfl Tryz.isAgg30 Tryz.sizeOf30 rfl) ?_;refine vd_do rfl (ests st 0 [_, _, _] Tryz.sizeOf81 ?_);intro w st;refine vd_next st.dr ?_; intro hS;refine vd_do rfl (est st 1 Tryz.sizeOf28 ?_);intro w st;refine vd_next st.dr ?_; intro hS
 rotate_left
 focus
  refine (ests st 0 [_, _, _] Tryz.sizeOf81 ?_);intro w st;refine vd_next st.dr ?_; intro hS;refine vd_two rfl rfl ?_ ?_;refine (e_run rfl rfl (y_ta rfl Tryz.underlying70) ?_);refine vd_next st.dr ?_; intro hS;refine vd_take rfl rfl rfl hS (fun w st => y_fldA (vs := [_, _]) rfl Tryz.underlying70 rfl rfl Tryz.isAgg30 Tryz.sizeOf30 rfl) ?_;refine vd_do rfl (est st 1 Tryz.sizeOf28 ?_);intro w st;refine vd_next st.dr ?_; intro hS
  rotate_left
  refine (est st 1 Tryz.sizeOf28 ?_);intro w st;refine vd_next st.dr ?_; intro hS;refine vd_do rfl (e_run rfl rfl (y_ta rfl Tryz.underlying70) ?_);refine vd_next st.dr ?_; intro hS;refine vd_take rfl rfl rfl hS (fun w st => y_fldA (vs := [_, _]) rfl Tryz.underlying70 rfl rfl Tryz.isAgg30 Tryz.sizeOf30 rfl) ?_
 all_goals
  refine vd_do rfl (ests st 2 [_, _] Tryz.sizeOf30 ?_);intro w st;refine vd_next st.dr ?_; intro hS;refine vd_end ?_;intro a ha;exact ⟨ha.defers, _, rfl, .tuple #[], by simp [results, Tryz.results46], ⟨_, rfl⟩, rfl, by first | exact ⟨st.res (i := 0) rfl, st.res (i := 1) rfl, st.res (i := 2) rfl, st.chg⟩⟩
set_option maxHeartbeats 1000000 in
theorem expr_catch (b2 b3 b4 p ru : Nat) (e : Int) (w : World) (h2 : w.heap[b2]? = some (.cells ex00.toArray 27 (0, 0))) (h3 : w.heap[b3]? = some (.cells [.int .i64 e].toArray 28 (0, 0))) (h4 : w.heap[b4]? = some (.cells [.int .i64 0, .int .i64 0].toArray 30 (0, 0)))
    (n1 : b2 ≠ b3) (n2 : b2 ≠ b4) (n3 : b3 ≠ b4) : DefCatch Tryz.prog 18 [.pointer (some ⟨b2, 0, none⟩), .pointer (some ⟨b3, 0, none⟩), .pointer (some ⟨b4, 0, none⟩)].toArray (.iface 70 (.agg #[.int .i64 (p : Int), .int .i64 (ru : Int)])) w
  (fun w' => w'.heap[b2]? = some (.cells ex00.toArray 27 (0, 0)) ∧ w'.heap[b3]? = some (.cells [.int .i64 30].toArray 28 (0, 0)) ∧ w'.heap[b4]? = some (.cells [.int .i64 (p : Int), .int .i64 (ru : Int)].toArray 30 (0, 0)) ∧ Chg [b2, b3, b4] w w') := by
 refine callsD_of_wpS Tryz.func18 rfl fun c₀ cs hu => ?_
 have st := St.of3 [b2, b3, b4] h2 h3 h4 n1 n2 n3;apply wpS_seq;apply wpS_region;simp [wpOpsS, go_sem, recoverD, hu, Tryz.ntmps18, Exit.thenS];apply wpS_seq;apply wpS_region;simp [wpOpsS, go_sem, Exit.thenS];refine wpS_cond (t := true) (by simp [Act.eval, Array.replicate]) ?_;simp only [if_true];refine wpS_of_wp ?_;refine wp_of_vc (n := (11, [])) (kn := [(0, .pointer (some ⟨b2, 0, none⟩)), (1, .pointer (some ⟨b3, 0, none⟩)), (2, .pointer (some ⟨b4, 0, none⟩)), (3, .iface 70 (.agg #[.int .i64 (p : Int), .int .i64 (ru : Int)]))]) (K.of (by rfl) ?_) ?_
 ·intro i v hv;simp only [find] at hv
  repeat' split at hv
  all_goals first | (rename_i hh; have hh' := Nat.eq_of_beq_eq_true hh; subst hh'; cases hv; rfl) | simp at hv
 refine ddr Tryz.mixed (.take 0 (.take 1 (.two 2 4 (.take 3 (.one 4 (.one 5 (.one 6 .done)))) (.two 2 5 (.take 3 (.one 5 (.one 6 .done))) (.one 2 (.take 3 (.one 6 .done))))))) [] st ?_;clear st; intro w st hS;refine vd_take rfl rfl rfl hS (fun w st => ybd (.agg #[_, _, _, _, _, _]) []) ?_;refine dm hS ?_;refine vd_two rfl rfl ?_ ?_;refine (e_run rfl rfl (y_ta rfl Tryz.underlying70) ?_);refine vd_next st.dr ?_; intro hS;refine vd_take rfl rfl rfl hS (fun w st => y_fldA (vs := [_, _]) rfl Tryz.underlying70 rfl rfl Tryz.isAgg30 Tryz.sizeOf30 rfl) ?_;refine vd_do rfl (ests st 0 [_, _, _, _, _, _] Tryz.sizeOf27 ?_);intro w st;refine vd_next st.dr ?_; intro hS;refine vd_do rfl (est st 1 Tryz.sizeOf28 ?_);intro w st;refine vd_next st.dr ?_; intro hS
 rotate_left
 focus
  refine (ests st 0 [_, _, _, _, _, _] Tryz.sizeOf27 ?_);intro w st;refine vd_next st.dr ?_; intro hS;refine vd_two rfl rfl ?_ ?_;refine (e_run rfl rfl (y_ta rfl Tryz.underlying70) ?_);refine vd_next st.dr ?_; intro hS;refine vd_take rfl rfl rfl hS (fun w st => y_fldA (vs := [_, _]) rfl Tryz.underlying70 rfl rfl Tryz.isAgg30 Tryz.sizeOf30 rfl) ?_;refine vd_do rfl (est st 1 Tryz.sizeOf28 ?_);intro w st;refine vd_next st.dr ?_; intro hS
  rotate_left
  refine (est st 1 Tryz.sizeOf28 ?_);intro w st;refine vd_next st.dr ?_; intro hS;refine vd_do rfl (e_run rfl rfl (y_ta rfl Tryz.underlying70) ?_);refine vd_next st.dr ?_; intro hS;refine vd_take rfl rfl rfl hS (fun w st => y_fldA (vs := [_, _]) rfl Tryz.underlying70 rfl rfl Tryz.isAgg30 Tryz.sizeOf30 rfl) ?_
 all_goals
  refine vd_do rfl (ests st 2 [_, _] Tryz.sizeOf30 ?_);intro w st;refine vd_next st.dr ?_; intro hS;refine vd_end ?_;intro a ha;exact ⟨ha.defers, _, rfl, .tuple #[], by simp [results, Tryz.results18], ⟨_, rfl⟩, rfl, by first | exact ⟨st.res (i := 0) rfl, st.res (i := 1) rfl, st.res (i := 2) rfl, st.chg⟩⟩
end Go.Proofs.YtjoepkpdanolkaaGreatDoor.Pq

