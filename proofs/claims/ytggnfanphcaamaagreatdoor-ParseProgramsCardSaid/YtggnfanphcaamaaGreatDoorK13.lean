/- A part of the proof: contracts of functions and plain laws; each theorem says its own conditions. -/
import Derived.Test.YtggnfanphcaamaaGreatDoorF
import Derived.Test.YtggnfanphcaamaaGreatDoorK0
import Derived.Test.YtggnfanphcaamaaGreatDoorK1
import Derived.Test.YtggnfanphcaamaaGreatDoorK7
namespace Go.Proofs.YtggnfanphcaamaaGreatDoor
open Go.RowKit Sx LexS _root_.Go.Proofs.Tryz
set_option linter.unusedVariables false
set_option linter.unusedSimpArgs false
abbrev tok4 (k : Int) (t : List UInt8) (wd a : Int) : List Value := [.int .u8 k, str t, .int .i64 wd, .int .i64 a]
/-- the same, its parts named -/
def RdFlat (s : List UInt8) (i : Nat) (fa fr : Int) (res : TokR) (k : Int) (t : List UInt8) (wd a j fa' fr' : Int) : Prop := match res with
 | .tok x => k = x.kind ∧ t = x.text ∧ wd = x.word ∧ a = x.at_ ∧ j = ((i + x.text.length : Nat) : Int) ∧ fa' = fa ∧ fr' = fr
 | .bad rule p => k = 0 ∧ t = [] ∧ wd = 0 ∧ a = 0 ∧ fa' = p ∧ fr' = rule
theorem rd_flat {b : Nat} {s : List UInt8} {i : Nat} {fa fr : Int} {res : TokR} {v : Value} {w' : World} (h : RdPost b s i fa fr res v w') :
    ∃ k t wd a j fa' fr', v = .agg (tok4 k t wd a).toArray ∧ w'.heap[b]? = some (scn s j fa' fr') ∧ RdFlat s i fa fr res k t wd a j fa' fr' := by
 cases res with
 | tok x => exact ⟨_, _, _, _, _, _, _, h.1, h.2, rfl, rfl, rfl, rfl, rfl, rfl, rfl⟩
 | bad rule p => obtain ⟨h1, j, h2⟩ := h; exact ⟨0, [], 0, 0, j, _, _, h1, h2, rfl, rfl, rfl, rfl, rfl, rfl⟩
theorem bad_rule {r : List UInt8} {i rule p : Nat} (h : tokAt r i = .bad rule p) : 1 ≤ rule ∧ rule ≤ 4 := by
 simp only [tokAt] at h
 (repeat' split at h) <;> first | (simp at h; done) | (simp at h; omega)
/-- what 'next' leaves: the token, or none -/
def NxPost (b : Nat) (s : List UInt8) (i : Nat) (v : Value) (w' : World) : Prop :=
 if s.length ≤ i + skip (s.drop i) then v = .tuple #[.agg zeroL.toArray, .bool false] ∧ ∃ j : Int, w'.heap[b]? = some (scn s j 0 0)
 else match tokAt (s.drop (i + skip (s.drop i))) (i + skip (s.drop i)) with
  | .tok x => v = .tuple #[.agg (tokL x).toArray, .bool true] ∧ w'.heap[b]? = some (scn s ((i + skip (s.drop i) + x.text.length : Nat) : Int) 0 0)
  | .bad rule p => v = .tuple #[.agg zeroL.toArray, .bool false] ∧ ∃ j : Int, w'.heap[b]? = some (scn s j (p : Int) (rule : Int))

set_option maxHeartbeats 1000000 in
theorem next_any (b : Nat) (s : List UInt8) (i : Nat) (w : World) (hb : w.heap[b]? = some (scn s i 0 0)) (hi : i ≤ s.length) (hs : s.length ≤ 3000000) :
    Ret Tryz.prog 40 [.pointer (some ⟨b, 0, none⟩)] w fun v w' => Chg [b] w w' ∧ NxPost b s i v w' := by
 refine ret_of [_] func40 rfl ntmps40 rfl ?_
 have st := St.init w [b]
 have hle := skip_le (s.drop i)
 simp only [List.length_drop] at hle
 replace st := St.of1 [b] hb
 refine vc_seq ?_
 refine vc_region ?_
 refine vc_e (e_al (l := [_, _, _, _]) st rfl rfl zeroValue82 rfl ?_)
 intro b2 w hb2 st
 refine vc_y rfl rfl (y_as rfl) ?_
 refine vc_end (vq_then (vc_keep [(0, _), (2, _)] ⟨rfl, rfl, trivial⟩ (vc_seq ?_)))
 refine vc_region ?_
 refine vc_y rfl rfl (y_mv rfl) ?_
 refine vc_e (e_call [_] rfl rfl call55 rfl (over_any b s i _ _ _ (st.res (i := 1) rfl) hi hs) ?_)
 rintro _ w ⟨rfl, cw, hw⟩
 replace st := st.turn (i := 1) (r' := .blk b _) rfl rfl rfl cw (.inl (by simp)) hw
 dsimp only [setNth] at st
 have hi1 : i + skip (List.drop i s) ≤ s.length := by omega
 refine vc_end (vq_then (vc_keep [(0, _), (2, _)] ⟨rfl, rfl, trivial⟩ (vc_seq (vc_seq ?_))))
 refine vc_draw Tryz.mixed [(0, true), (1, true), (2, true), (3, true), (4, true), (5, true), (6, true), (7, true), (8, true), (9, true)] (fun w => St _ _ _ w) st (by kernel_rfl) (by repeat (first | exact okQ_body | refine okQ_then ?_ | refine okQ_block ?_)) rfl (by kernel_rfl) ?_
 intro w cd; replace st := st.call0 cd; clear cd
 have hS := st
 refine vp_take rfl rfl rfl hS (fun w st => y_mv rfl) ?_
 refine vp_take rfl rfl rfl hS (fun w st => y_nck rfl) ?_
 refine vp_take rfl rfl rfl hS (fun w st => (by first | exact y_faz (k := 1) rfl underlying79 rfl rfl sizeOf3 rfl | exact y_fa (k := 1) rfl underlying79 rfl rfl sizeOf3 rfl)) ?_
 refine vp_take rfl rfl rfl hS (fun w st => (by first | exact y_ld st 0 rfl isAgg3 rfl rfl | exact y_ld st 1 rfl isAgg3 rfl rfl | exact y_ld st 2 rfl isAgg3 rfl rfl | exact y_ld st 3 rfl isAgg3 rfl rfl)) ?_
 refine vp_take rfl rfl rfl hS (fun w st => y_mv rfl) ?_
 refine vp_take rfl rfl rfl hS (fun w st => y_nck rfl) ?_
 refine vp_take rfl rfl rfl hS (fun w st => y_fa0 rfl underlying79 rfl rfl sizeOf9 rfl) ?_
 refine vp_take rfl rfl rfl hS (fun w st => (by first | exact y_ld st 0 rfl isAgg9 rfl rfl | exact y_ld st 1 rfl isAgg9 rfl rfl | exact y_ld st 2 rfl isAgg9 rfl rfl | exact y_ld st 3 rfl isAgg9 rfl rfl)) ?_
 refine vp_take rfl rfl rfl hS (fun w st => y_lens rfl underlying9) ?_
 refine vp_take rfl rfl rfl hS (fun w st => y_geq rfl rfl) ?_
 refine vp_end (vq_then (vc_keep [(0, _), (2, _), (19, _)] ⟨rfl, rfl, rfl, trivial⟩ ?_))
 refine vc_ifs rfl ?_ ?_
 ·
  intro hc19
  try simp only [decide_eq_true_eq, decide_eq_false_iff_not, Bool.not_eq_true', Bool.not_eq_false', Bool.not_eq_true, Bool.not_eq_false, Int.not_lt, Int.not_le, Nat.not_lt, Nat.not_le, Bool.not_true, Bool.not_false, Bool.true_eq_false, Bool.false_eq_true] at hc19
  refine vc_seq ?_
  refine vc_region ?_
  refine vc_y rfl rfl (y_bld (.agg #[_, _, _, _]) [] rfl (fun w => by simp [Instr.build, go_sem] <;> repeat' constructor)) ?_
  first
  | refine vc_e (e_sts (vs := [_, _, _, _]) st 0 rfl rfl rfl rfl rfl sizeOf82 rfl rfl (by first | (right; assumption) | (left; simp)) ?_)
  | refine vc_e (e_sts (vs := [_, _, _, _]) st 1 rfl rfl rfl rfl rfl sizeOf82 rfl rfl (by first | (right; assumption) | (left; simp)) ?_)
  | refine vc_e (e_sts (vs := [_, _, _, _]) st 2 rfl rfl rfl rfl rfl sizeOf82 rfl rfl (by first | (right; assumption) | (left; simp)) ?_)
  | refine vc_e (e_sts (vs := [_, _, _, _]) st 3 rfl rfl rfl rfl rfl sizeOf82 rfl rfl (by first | (right; assumption) | (left; simp)) ?_)
  intro w st; dsimp only [setNth, wr] at st
  refine vc_y rfl rfl (y_as rfl) ?_
  refine vc_end (vq_then (vc_keep [(2, _), (3, _)] ⟨rfl, rfl, trivial⟩ (vc_ret (vq_then_ret ?_))))
  refine vq_ret2 st (.inl rfl) results40 (by first | exact .cell 0 rfl rfl isAgg82 sizeOf82 | exact .cell 1 rfl rfl isAgg82 sizeOf82 | exact .cell 2 rfl rfl isAgg82 sizeOf82 | exact .cell 3 rfl rfl isAgg82 sizeOf82) (.tmp rfl) ?_
  refine ⟨_, rfl, ?_⟩
  refine ⟨st.chg, ?_⟩
  unfold NxPost
  rw [if_pos (by omega)]
  exact ⟨rfl, _, st.res (i := 1) rfl⟩
 ·
  intro hc19
  try simp only [decide_eq_true_eq, decide_eq_false_iff_not, Bool.not_eq_true', Bool.not_eq_false', Bool.not_eq_true, Bool.not_eq_false, Int.not_lt, Int.not_le, Nat.not_lt, Nat.not_le, Bool.not_true, Bool.not_false, Bool.true_eq_false, Bool.false_eq_true] at hc19
  refine vc_code_skip (vq_then (vc_keep [(0, _), (2, _)] ⟨rfl, rfl, trivial⟩ (vc_seq ?_)))
  refine vc_region ?_
  refine vc_y rfl rfl (y_mv rfl) ?_
  refine vc_y rfl rfl (y_mf [_] [] rfl rfl) ?_
  refine vc_y rfl rfl (y_mv rfl) ?_
  refine vc_y rfl rfl (y_mf [_] [] rfl rfl) ?_
  refine vc_y rfl rfl (y_mv rfl) ?_
  refine vc_y rfl rfl (y_mf [_] [] rfl rfl) ?_
  refine vc_y rfl rfl (y_bld (.agg #[_, _, _]) [(0, _), (1, _), (2, _)] rfl (fun w => by simp [Instr.build, go_sem] <;> repeat' constructor)) ?_
  refine vc_e (e_al (l := [_, _, _]) st rfl rfl zeroValue94 rfl ?_)
  intro b4 w hb4 st
  first
  | refine vc_e (e_sts (vs := [_, _, _]) st 0 rfl rfl rfl rfl rfl sizeOf94 rfl rfl (by first | (right; assumption) | (left; simp)) ?_)
  | refine vc_e (e_sts (vs := [_, _, _]) st 1 rfl rfl rfl rfl rfl sizeOf94 rfl rfl (by first | (right; assumption) | (left; simp)) ?_)
  | refine vc_e (e_sts (vs := [_, _, _]) st 2 rfl rfl rfl rfl rfl sizeOf94 rfl rfl (by first | (right; assumption) | (left; simp)) ?_)
  | refine vc_e (e_sts (vs := [_, _, _]) st 3 rfl rfl rfl rfl rfl sizeOf94 rfl rfl (by first | (right; assumption) | (left; simp)) ?_)
  intro w st; dsimp only [setNth, wr] at st
  refine vc_end (vq_then (vc_keep [(0, _), (2, _), (4, _)] ⟨rfl, rfl, rfl, trivial⟩ (vc_seq ?_)))
  refine vc_region ?_
  refine vc_y rfl rfl (y_as rfl) ?_
  refine vc_end (vq_then (vc_keep [(0, _), (2, _), (4, _), (5, _)] ⟨rfl, rfl, rfl, rfl, trivial⟩ (vc_seq (vc_seq ?_))))
  refine vc_draw Tryz.mixed [(0, true), (1, true), (2, true), (3, true), (4, true), (5, true), (6, true), (7, true), (8, true), (9, true)] (fun w => St _ _ _ w) st (by kernel_rfl) (by repeat (first | exact okQ_body | refine okQ_then ?_ | refine okQ_block ?_)) rfl (by kernel_rfl) ?_
  intro w cd; replace st := st.call0 cd; clear cd
  have hS := st
  refine vp_take rfl rfl rfl hS (fun w st => y_mv rfl) ?_
  refine vp_take rfl rfl rfl hS (fun w st => y_nck rfl) ?_
  refine vp_take rfl rfl rfl hS (fun w st => y_fa0 rfl underlying79 rfl rfl sizeOf9 rfl) ?_
  refine vp_take rfl rfl rfl hS (fun w st => (by first | exact y_ld st 0 rfl isAgg9 rfl rfl | exact y_ld st 1 rfl isAgg9 rfl rfl | exact y_ld st 2 rfl isAgg9 rfl rfl | exact y_ld st 3 rfl isAgg9 rfl rfl)) ?_
  refine vp_take rfl rfl rfl hS (fun w st => y_mv rfl) ?_
  refine vp_take rfl rfl rfl hS (fun w st => y_nck rfl) ?_
  refine vp_take rfl rfl rfl hS (fun w st => (by first | exact y_faz (k := 1) rfl underlying79 rfl rfl sizeOf3 rfl | exact y_fa (k := 1) rfl underlying79 rfl rfl sizeOf3 rfl)) ?_
  refine vp_take rfl rfl rfl hS (fun w st => (by first | exact y_ld st 0 rfl isAgg3 rfl rfl | exact y_ld st 1 rfl isAgg3 rfl rfl | exact y_ld st 2 rfl isAgg3 rfl rfl | exact y_ld st 3 rfl isAgg3 rfl rfl)) ?_
  refine vp_take rfl rfl rfl hS (fun w st => y_ixs (k := _) rfl rfl underlying9 rfl (by omega)) ?_
  refine vp_take rfl rfl rfl hS (fun w st => y_as rfl) ?_
  refine vp_end (vq_then (vc_keep [(0, _), (2, _), (4, _), (5, _), (6, _)] ⟨rfl, rfl, rfl, rfl, rfl, trivial⟩ (vc_block (vc_seq ?_))))
  refine vc_region ?_
  refine vc_y rfl rfl (y_mv rfl) ?_
  refine vc_e (e_call [_] rfl rfl call59 rfl (letter_any _ _) ?_)
  rintro _ _ ⟨rfl, rfl⟩
  refine vc_y rfl rfl (y_as rfl) ?_
  refine vc_end (vq_then (vc_keep [(0, _), (2, _), (4, _), (5, _), (6, _), (37, _)] ⟨rfl, rfl, rfl, rfl, rfl, rfl, trivial⟩ ?_))
  refine vc_ifs rfl ?_ ?_
  ·
   intro hc37
   try simp only [decide_eq_true_eq, decide_eq_false_iff_not, Bool.not_eq_true', Bool.not_eq_false', Bool.not_eq_true, Bool.not_eq_false, Int.not_lt, Int.not_le, Nat.not_lt, Nat.not_le, Bool.not_true, Bool.not_false, Bool.true_eq_false, Bool.false_eq_true] at hc37
   refine vc_region ?_
   refine vc_y rfl rfl (y_as rfl) ?_
   refine vc_end (vq_block (vq_then (vc_keep [(0, _), (2, _), (4, _), (5, _)] ⟨rfl, rfl, rfl, rfl, trivial⟩ (vc_seq ?_))))
   refine vc_region ?_
   refine vc_y rfl rfl (y_mv rfl) ?_
   refine vc_y rfl rfl (y_iaa (k := 1) rfl rfl underlying94 sizeOf86 rfl (by omega)) ?_
   refine vc_y rfl rfl ((by first | exact y_ld st 0 rfl isAgg86 rfl rfl | exact y_ld st 1 rfl isAgg86 rfl rfl | exact y_ld st 2 rfl isAgg86 rfl rfl | exact y_ld st 3 rfl isAgg86 rfl rfl)) ?_
   refine vc_e (e_callv [] rfl rfl rfl call57 rfl (word_rd b s _ _ _ _ (st.res (i := 2) rfl) (by omega) hs (by assumption)) ?_)
   rintro _ w ⟨cw, hp⟩
   obtain ⟨k, t, wd, a, j, fa', fr', rfl, hw, hf⟩ := rd_flat hp
   replace st := st.turn (i := 2) (r' := .blk b _) rfl rfl rfl cw (.inl (by simp)) hw
   dsimp only [setNth] at st
   refine vc_e (e_al (l := [_, _, _, _]) st rfl rfl zeroValue82 rfl ?_)
   intro b7 w hb7 st
   first
   | refine vc_e (e_sts (vs := [_, _, _, _]) st 0 rfl rfl rfl rfl rfl sizeOf82 rfl rfl (by first | (right; assumption) | (left; simp)) ?_)
   | refine vc_e (e_sts (vs := [_, _, _, _]) st 1 rfl rfl rfl rfl rfl sizeOf82 rfl rfl (by first | (right; assumption) | (left; simp)) ?_)
   | refine vc_e (e_sts (vs := [_, _, _, _]) st 2 rfl rfl rfl rfl rfl sizeOf82 rfl rfl (by first | (right; assumption) | (left; simp)) ?_)
   | refine vc_e (e_sts (vs := [_, _, _, _]) st 3 rfl rfl rfl rfl rfl sizeOf82 rfl rfl (by first | (right; assumption) | (left; simp)) ?_)
   intro w st; dsimp only [setNth, wr] at st
   refine vc_end (vq_then (vc_keep [(0, _), (2, _), (7, _)] ⟨rfl, rfl, rfl, trivial⟩ (vc_seq ?_)))
   refine vc_draw Tryz.mixed [(0, true), (1, true), (2, true), (3, true), (4, true), (5, true), (6, true), (7, false), (8, true)] (fun w => St _ _ [.blk b7 (.cells (tok4 k t wd a).toArray 82 (0, 0)), .blk b (scn s j fa' fr')] w) (by first | exact st | exact st.drop (by repeat (first | exact List.Sublist.slnil | apply List.Sublist.cons_cons | apply List.Sublist.cons))) (by kernel_rfl) (by repeat (first | exact okQ_body | refine okQ_then ?_ | refine okQ_block ?_)) rfl (by kernel_rfl) ?_
   intro w cd; replace st := st.call0 cd; clear cd
   have hS : St _ _ [.blk b7 (.cells (tok4 k t wd a).toArray 82 (0, 0)), .blk b (scn s j fa' fr')] w := (by first | exact st | exact st.drop (by repeat (first | exact List.Sublist.slnil | apply List.Sublist.cons_cons | apply List.Sublist.cons)))
   refine vp_take rfl rfl rfl hS (fun w st => (by first | exact y_lda (vs := [_, _, _, _]) st 0 rfl isAgg82 sizeOf82 rfl rfl | exact y_lda (vs := [_, _, _, _]) st 1 rfl isAgg82 sizeOf82 rfl rfl | exact y_lda (vs := [_, _, _, _]) st 2 rfl isAgg82 sizeOf82 rfl rfl | exact y_lda (vs := [_, _, _, _]) st 3 rfl isAgg82 sizeOf82 rfl rfl)) ?_
   refine vp_take rfl rfl rfl hS (fun w st => y_mv rfl) ?_
   refine vp_take rfl rfl rfl hS (fun w st => y_nck rfl) ?_
   refine vp_take rfl rfl rfl hS (fun w st => (by first | exact y_faz (k := 2) rfl underlying79 rfl rfl sizeOf28 rfl | exact y_fa (k := 2) rfl underlying79 rfl rfl sizeOf28 rfl)) ?_
   refine vp_take rfl rfl rfl hS (fun w st => (by first | exact y_faz (k := 1) rfl underlying28 rfl rfl sizeOf3 rfl | exact y_fa (k := 1) rfl underlying28 rfl rfl sizeOf3 rfl)) ?_
   refine vp_take rfl rfl rfl hS (fun w st => (by first | exact y_ld st 0 rfl isAgg3 rfl rfl | exact y_ld st 1 rfl isAgg3 rfl rfl | exact y_ld st 2 rfl isAgg3 rfl rfl | exact y_ld st 3 rfl isAgg3 rfl rfl)) ?_
   refine vp_take rfl rfl rfl hS (fun w st => y_eqi rfl rfl) ?_
   first
   | refine vp_do rfl (e_sts (vs := [_, _, _, _]) st 0 rfl rfl rfl rfl rfl sizeOf82 rfl rfl (by first | (right; assumption) | (left; simp)) ?_)
   | refine vp_do rfl (e_sts (vs := [_, _, _, _]) st 1 rfl rfl rfl rfl rfl sizeOf82 rfl rfl (by first | (right; assumption) | (left; simp)) ?_)
   | refine vp_do rfl (e_sts (vs := [_, _, _, _]) st 2 rfl rfl rfl rfl rfl sizeOf82 rfl rfl (by first | (right; assumption) | (left; simp)) ?_)
   | refine vp_do rfl (e_sts (vs := [_, _, _, _]) st 3 rfl rfl rfl rfl rfl sizeOf82 rfl rfl (by first | (right; assumption) | (left; simp)) ?_)
   intro w st; dsimp only [setNth, wr] at st
   refine vp_next (by first | exact st | exact st.drop (by repeat (first | exact List.Sublist.slnil | apply List.Sublist.cons_cons | apply List.Sublist.cons))) ?_; intro hS
   refine vp_take rfl rfl rfl hS (fun w st => y_as rfl) ?_
   refine vp_end (vq_then (vc_keep [(2, _), (3, _)] ⟨rfl, rfl, trivial⟩ (vc_ret ?_)))
   refine vq_ret2 st (.inl rfl) results40 (by first | exact .cell 0 rfl rfl isAgg82 sizeOf82 | exact .cell 1 rfl rfl isAgg82 sizeOf82 | exact .cell 2 rfl rfl isAgg82 sizeOf82 | exact .cell 3 rfl rfl isAgg82 sizeOf82) (.tmp rfl) ?_
   refine ⟨_, rfl, ?_⟩
   refine ⟨st.chg, ?_⟩
   unfold NxPost
   rw [if_neg (by omega)]
   have hr := st.res (i := 3) rfl
   cases hR : tokAt (List.drop (i + skip (List.drop i s)) s) (i + skip (List.drop i s)) with
   | tok x => rw [hR] at hf; obtain ⟨rfl, rfl, rfl, rfl, rfl, rfl, rfl⟩ := hf; exact ⟨rfl, hr⟩
   | bad rule p =>
    have hb' := bad_rule hR
    rw [hR] at hf; obtain ⟨rfl, rfl, rfl, rfl, rfl, rfl⟩ := hf
    refine ⟨?_, _, hr⟩
    rw [show (decide ((rule : Int) = 0)) = false from by simp; omega]
  ·
   intro hc37
   try simp only [decide_eq_true_eq, decide_eq_false_iff_not, Bool.not_eq_true', Bool.not_eq_false', Bool.not_eq_true, Bool.not_eq_false, Int.not_lt, Int.not_le, Nat.not_lt, Nat.not_le, Bool.not_true, Bool.not_false, Bool.true_eq_false, Bool.false_eq_true] at hc37
   refine vc_seq ?_
   refine vc_region ?_
   refine vc_y rfl rfl (y_mv rfl) ?_
   refine vc_e (e_call [_] rfl rfl call60 rfl (digit_any _ _) ?_)
   rintro _ _ ⟨rfl, rfl⟩
   refine vc_y rfl rfl (y_as rfl) ?_
   refine vc_end (vq_then (vc_keep [(0, _), (2, _), (4, _), (5, _), (40, _)] ⟨rfl, rfl, rfl, rfl, rfl, trivial⟩ ?_))
   refine vc_ifs rfl ?_ ?_
   ·
    intro hc40
    try simp only [decide_eq_true_eq, decide_eq_false_iff_not, Bool.not_eq_true', Bool.not_eq_false', Bool.not_eq_true, Bool.not_eq_false, Int.not_lt, Int.not_le, Nat.not_lt, Nat.not_le, Bool.not_true, Bool.not_false, Bool.true_eq_false, Bool.false_eq_true] at hc40
    refine vc_region ?_
    refine vc_y rfl rfl (y_as rfl) ?_
    refine vc_end (vq_block (vq_then (vc_keep [(0, _), (2, _), (4, _), (5, _)] ⟨rfl, rfl, rfl, rfl, trivial⟩ (vc_seq ?_))))
    refine vc_region ?_
    refine vc_y rfl rfl (y_mv rfl) ?_
    refine vc_y rfl rfl (y_iaa (k := 2) rfl rfl underlying94 sizeOf86 rfl (by omega)) ?_
    refine vc_y rfl rfl ((by first | exact y_ld st 0 rfl isAgg86 rfl rfl | exact y_ld st 1 rfl isAgg86 rfl rfl | exact y_ld st 2 rfl isAgg86 rfl rfl | exact y_ld st 3 rfl isAgg86 rfl rfl)) ?_
    refine vc_e (e_callv [] rfl rfl rfl call58 rfl (number_rd b s _ _ _ _ (st.res (i := 2) rfl) (by omega) hs (by assumption) (by assumption)) ?_)
    rintro _ w ⟨cw, hp⟩
    obtain ⟨k, t, wd, a, j, fa', fr', rfl, hw, hf⟩ := rd_flat hp
    replace st := st.turn (i := 2) (r' := .blk b _) rfl rfl rfl cw (.inl (by simp)) hw
    dsimp only [setNth] at st
    refine vc_e (e_al (l := [_, _, _, _]) st rfl rfl zeroValue82 rfl ?_)
    intro b7 w hb7 st
    first
    | refine vc_e (e_sts (vs := [_, _, _, _]) st 0 rfl rfl rfl rfl rfl sizeOf82 rfl rfl (by first | (right; assumption) | (left; simp)) ?_)
    | refine vc_e (e_sts (vs := [_, _, _, _]) st 1 rfl rfl rfl rfl rfl sizeOf82 rfl rfl (by first | (right; assumption) | (left; simp)) ?_)
    | refine vc_e (e_sts (vs := [_, _, _, _]) st 2 rfl rfl rfl rfl rfl sizeOf82 rfl rfl (by first | (right; assumption) | (left; simp)) ?_)
    | refine vc_e (e_sts (vs := [_, _, _, _]) st 3 rfl rfl rfl rfl rfl sizeOf82 rfl rfl (by first | (right; assumption) | (left; simp)) ?_)
    intro w st; dsimp only [setNth, wr] at st
    refine vc_end (vq_then (vc_keep [(0, _), (2, _), (7, _)] ⟨rfl, rfl, rfl, trivial⟩ (vc_seq ?_)))
    refine vc_draw Tryz.mixed [(0, true), (1, true), (2, true), (3, true), (4, true), (5, true), (6, true), (7, false), (8, true)] (fun w => St _ _ [.blk b7 (.cells (tok4 k t wd a).toArray 82 (0, 0)), .blk b (scn s j fa' fr')] w) (by first | exact st | exact st.drop (by repeat (first | exact List.Sublist.slnil | apply List.Sublist.cons_cons | apply List.Sublist.cons))) (by kernel_rfl) (by repeat (first | exact okQ_body | refine okQ_then ?_ | refine okQ_block ?_)) rfl (by kernel_rfl) ?_
    intro w cd; replace st := st.call0 cd; clear cd
    have hS : St _ _ [.blk b7 (.cells (tok4 k t wd a).toArray 82 (0, 0)), .blk b (scn s j fa' fr')] w := (by first | exact st | exact st.drop (by repeat (first | exact List.Sublist.slnil | apply List.Sublist.cons_cons | apply List.Sublist.cons)))
    refine vp_take rfl rfl rfl hS (fun w st => (by first | exact y_lda (vs := [_, _, _, _]) st 0 rfl isAgg82 sizeOf82 rfl rfl | exact y_lda (vs := [_, _, _, _]) st 1 rfl isAgg82 sizeOf82 rfl rfl | exact y_lda (vs := [_, _, _, _]) st 2 rfl isAgg82 sizeOf82 rfl rfl | exact y_lda (vs := [_, _, _, _]) st 3 rfl isAgg82 sizeOf82 rfl rfl)) ?_
    refine vp_take rfl rfl rfl hS (fun w st => y_mv rfl) ?_
    refine vp_take rfl rfl rfl hS (fun w st => y_nck rfl) ?_
    refine vp_take rfl rfl rfl hS (fun w st => (by first | exact y_faz (k := 2) rfl underlying79 rfl rfl sizeOf28 rfl | exact y_fa (k := 2) rfl underlying79 rfl rfl sizeOf28 rfl)) ?_
    refine vp_take rfl rfl rfl hS (fun w st => (by first | exact y_faz (k := 1) rfl underlying28 rfl rfl sizeOf3 rfl | exact y_fa (k := 1) rfl underlying28 rfl rfl sizeOf3 rfl)) ?_
    refine vp_take rfl rfl rfl hS (fun w st => (by first | exact y_ld st 0 rfl isAgg3 rfl rfl | exact y_ld st 1 rfl isAgg3 rfl rfl | exact y_ld st 2 rfl isAgg3 rfl rfl | exact y_ld st 3 rfl isAgg3 rfl rfl)) ?_
    refine vp_take rfl rfl rfl hS (fun w st => y_eqi rfl rfl) ?_
    first
    | refine vp_do rfl (e_sts (vs := [_, _, _, _]) st 0 rfl rfl rfl rfl rfl sizeOf82 rfl rfl (by first | (right; assumption) | (left; simp)) ?_)
    | refine vp_do rfl (e_sts (vs := [_, _, _, _]) st 1 rfl rfl rfl rfl rfl sizeOf82 rfl rfl (by first | (right; assumption) | (left; simp)) ?_)
    | refine vp_do rfl (e_sts (vs := [_, _, _, _]) st 2 rfl rfl rfl rfl rfl sizeOf82 rfl rfl (by first | (right; assumption) | (left; simp)) ?_)
    | refine vp_do rfl (e_sts (vs := [_, _, _, _]) st 3 rfl rfl rfl rfl rfl sizeOf82 rfl rfl (by first | (right; assumption) | (left; simp)) ?_)
    intro w st; dsimp only [setNth, wr] at st
    refine vp_next (by first | exact st | exact st.drop (by repeat (first | exact List.Sublist.slnil | apply List.Sublist.cons_cons | apply List.Sublist.cons))) ?_; intro hS
    refine vp_take rfl rfl rfl hS (fun w st => y_as rfl) ?_
    refine vp_end (vq_then (vc_keep [(2, _), (3, _)] ⟨rfl, rfl, trivial⟩ (vc_ret ?_)))
    refine vq_ret2 st (.inl rfl) results40 (by first | exact .cell 0 rfl rfl isAgg82 sizeOf82 | exact .cell 1 rfl rfl isAgg82 sizeOf82 | exact .cell 2 rfl rfl isAgg82 sizeOf82 | exact .cell 3 rfl rfl isAgg82 sizeOf82) (.tmp rfl) ?_
    refine ⟨_, rfl, ?_⟩
    refine ⟨st.chg, ?_⟩
    unfold NxPost
    rw [if_neg (by omega)]
    have hr := st.res (i := 3) rfl
    cases hR : tokAt (List.drop (i + skip (List.drop i s)) s) (i + skip (List.drop i s)) with
    | tok x => rw [hR] at hf; obtain ⟨rfl, rfl, rfl, rfl, rfl, rfl, rfl⟩ := hf; exact ⟨rfl, hr⟩
    | bad rule p =>
     have hb' := bad_rule hR
     rw [hR] at hf; obtain ⟨rfl, rfl, rfl, rfl, rfl, rfl⟩ := hf
     refine ⟨?_, _, hr⟩
     rw [show (decide ((rule : Int) = 0)) = false from by simp; omega]
   ·
    intro hc40
    try simp only [decide_eq_true_eq, decide_eq_false_iff_not, Bool.not_eq_true', Bool.not_eq_false', Bool.not_eq_true, Bool.not_eq_false, Int.not_lt, Int.not_le, Nat.not_lt, Nat.not_le, Bool.not_true, Bool.not_false, Bool.true_eq_false, Bool.false_eq_true] at hc40
    refine vc_code_skip (vq_block (vq_then (vc_keep [(0, _), (2, _), (4, _), (5, _)] ⟨rfl, rfl, rfl, rfl, trivial⟩ (vc_seq ?_))))
    refine vc_region ?_
    refine vc_y rfl rfl (y_mv rfl) ?_
    refine vc_y rfl rfl (y_iaa (k := 0) rfl rfl underlying94 sizeOf86 rfl (by omega)) ?_
    refine vc_y rfl rfl ((by first | exact y_ld st 0 rfl isAgg86 rfl rfl | exact y_ld st 1 rfl isAgg86 rfl rfl | exact y_ld st 2 rfl isAgg86 rfl rfl | exact y_ld st 3 rfl isAgg86 rfl rfl)) ?_
    refine vc_e (e_callv [] rfl rfl rfl call56 rfl (sign_rd b s _ _ _ _ (st.res (i := 2) rfl) (by omega) hs (by assumption) (by assumption)) ?_)
    rintro _ w ⟨cw, hp⟩
    obtain ⟨k, t, wd, a, j, fa', fr', rfl, hw, hf⟩ := rd_flat hp
    replace st := st.turn (i := 2) (r' := .blk b _) rfl rfl rfl cw (.inl (by simp)) hw
    dsimp only [setNth] at st
    refine vc_e (e_al (l := [_, _, _, _]) st rfl rfl zeroValue82 rfl ?_)
    intro b7 w hb7 st
    first
    | refine vc_e (e_sts (vs := [_, _, _, _]) st 0 rfl rfl rfl rfl rfl sizeOf82 rfl rfl (by first | (right; assumption) | (left; simp)) ?_)
    | refine vc_e (e_sts (vs := [_, _, _, _]) st 1 rfl rfl rfl rfl rfl sizeOf82 rfl rfl (by first | (right; assumption) | (left; simp)) ?_)
    | refine vc_e (e_sts (vs := [_, _, _, _]) st 2 rfl rfl rfl rfl rfl sizeOf82 rfl rfl (by first | (right; assumption) | (left; simp)) ?_)
    | refine vc_e (e_sts (vs := [_, _, _, _]) st 3 rfl rfl rfl rfl rfl sizeOf82 rfl rfl (by first | (right; assumption) | (left; simp)) ?_)
    intro w st; dsimp only [setNth, wr] at st
    refine vc_end (vq_then (vc_keep [(0, _), (2, _), (7, _)] ⟨rfl, rfl, rfl, trivial⟩ (vc_seq ?_)))
    refine vc_draw Tryz.mixed [(0, true), (1, true), (2, true), (3, true), (4, true), (5, true), (6, true), (7, false), (8, true)] (fun w => St _ _ [.blk b7 (.cells (tok4 k t wd a).toArray 82 (0, 0)), .blk b (scn s j fa' fr')] w) (by first | exact st | exact st.drop (by repeat (first | exact List.Sublist.slnil | apply List.Sublist.cons_cons | apply List.Sublist.cons))) (by kernel_rfl) (by repeat (first | exact okQ_body | refine okQ_then ?_ | refine okQ_block ?_)) rfl (by kernel_rfl) ?_
    intro w cd; replace st := st.call0 cd; clear cd
    have hS : St _ _ [.blk b7 (.cells (tok4 k t wd a).toArray 82 (0, 0)), .blk b (scn s j fa' fr')] w := (by first | exact st | exact st.drop (by repeat (first | exact List.Sublist.slnil | apply List.Sublist.cons_cons | apply List.Sublist.cons)))
    refine vp_take rfl rfl rfl hS (fun w st => (by first | exact y_lda (vs := [_, _, _, _]) st 0 rfl isAgg82 sizeOf82 rfl rfl | exact y_lda (vs := [_, _, _, _]) st 1 rfl isAgg82 sizeOf82 rfl rfl | exact y_lda (vs := [_, _, _, _]) st 2 rfl isAgg82 sizeOf82 rfl rfl | exact y_lda (vs := [_, _, _, _]) st 3 rfl isAgg82 sizeOf82 rfl rfl)) ?_
    refine vp_take rfl rfl rfl hS (fun w st => y_mv rfl) ?_
    refine vp_take rfl rfl rfl hS (fun w st => y_nck rfl) ?_
    refine vp_take rfl rfl rfl hS (fun w st => (by first | exact y_faz (k := 2) rfl underlying79 rfl rfl sizeOf28 rfl | exact y_fa (k := 2) rfl underlying79 rfl rfl sizeOf28 rfl)) ?_
    refine vp_take rfl rfl rfl hS (fun w st => (by first | exact y_faz (k := 1) rfl underlying28 rfl rfl sizeOf3 rfl | exact y_fa (k := 1) rfl underlying28 rfl rfl sizeOf3 rfl)) ?_
    refine vp_take rfl rfl rfl hS (fun w st => (by first | exact y_ld st 0 rfl isAgg3 rfl rfl | exact y_ld st 1 rfl isAgg3 rfl rfl | exact y_ld st 2 rfl isAgg3 rfl rfl | exact y_ld st 3 rfl isAgg3 rfl rfl)) ?_
    refine vp_take rfl rfl rfl hS (fun w st => y_eqi rfl rfl) ?_
    first
    | refine vp_do rfl (e_sts (vs := [_, _, _, _]) st 0 rfl rfl rfl rfl rfl sizeOf82 rfl rfl (by first | (right; assumption) | (left; simp)) ?_)
    | refine vp_do rfl (e_sts (vs := [_, _, _, _]) st 1 rfl rfl rfl rfl rfl sizeOf82 rfl rfl (by first | (right; assumption) | (left; simp)) ?_)
    | refine vp_do rfl (e_sts (vs := [_, _, _, _]) st 2 rfl rfl rfl rfl rfl sizeOf82 rfl rfl (by first | (right; assumption) | (left; simp)) ?_)
    | refine vp_do rfl (e_sts (vs := [_, _, _, _]) st 3 rfl rfl rfl rfl rfl sizeOf82 rfl rfl (by first | (right; assumption) | (left; simp)) ?_)
    intro w st; dsimp only [setNth, wr] at st
    refine vp_next (by first | exact st | exact st.drop (by repeat (first | exact List.Sublist.slnil | apply List.Sublist.cons_cons | apply List.Sublist.cons))) ?_; intro hS
    refine vp_take rfl rfl rfl hS (fun w st => y_as rfl) ?_
    refine vp_end (vq_then (vc_keep [(2, _), (3, _)] ⟨rfl, rfl, trivial⟩ (vc_ret ?_)))
    refine vq_ret2 st (.inl rfl) results40 (by first | exact .cell 0 rfl rfl isAgg82 sizeOf82 | exact .cell 1 rfl rfl isAgg82 sizeOf82 | exact .cell 2 rfl rfl isAgg82 sizeOf82 | exact .cell 3 rfl rfl isAgg82 sizeOf82) (.tmp rfl) ?_
    refine ⟨_, rfl, ?_⟩
    refine ⟨st.chg, ?_⟩
    unfold NxPost
    rw [if_neg (by omega)]
    have hr := st.res (i := 3) rfl
    cases hR : tokAt (List.drop (i + skip (List.drop i s)) s) (i + skip (List.drop i s)) with
    | tok x => rw [hR] at hf; obtain ⟨rfl, rfl, rfl, rfl, rfl, rfl, rfl⟩ := hf; exact ⟨rfl, hr⟩
    | bad rule p =>
     have hb' := bad_rule hR
     rw [hR] at hf; obtain ⟨rfl, rfl, rfl, rfl, rfl, rfl⟩ := hf
     refine ⟨?_, _, hr⟩
     rw [show (decide ((rule : Int) = 0)) = false from by simp; omega]

end Go.Proofs.YtggnfanphcaamaaGreatDoor


namespace Go.Proofs.YtggnfanphcaamaaGreatDoor
open Go.RowKit Sx LexS _root_.Go.Proofs.Tryz
set_option linter.unusedVariables false
set_option linter.unusedSimpArgs false
theorem Tryz.info82 : Tryz.prog.info? 82 = some Tryz.t82 := by kernel_rfl
def toksL (l : List Tok) : List Value := l.flatMap tokL
theorem toksL_snoc (l : List Tok) (t : Tok) : toksL (l ++ [t]) = toksL l ++ tokL t := by simp [toksL]
def NxRel (s : List UInt8) (i : Nat) (k : Int) (t : List UInt8) (wd a : Int) (ok : Bool) (j fa fr : Int) : Prop :=
 (ok = true ∧ ∃ x : Tok, i + skip (s.drop i) < s.length ∧ tokAt (s.drop (i + skip (s.drop i))) (i + skip (s.drop i)) = .tok x ∧ k = x.kind ∧ t = x.text ∧ wd = x.word ∧ a = x.at_ ∧ j = ((i + skip (s.drop i) + x.text.length : Nat) : Int) ∧ fa = 0 ∧ fr = 0) ∨
 (ok = false ∧ s.length ≤ i + skip (s.drop i) ∧ fa = 0 ∧ fr = 0) ∨
 (ok = false ∧ ∃ rule p : Nat, i + skip (s.drop i) < s.length ∧ tokAt (s.drop (i + skip (s.drop i))) (i + skip (s.drop i)) = .bad rule p ∧ fa = p ∧ fr = rule)
theorem nx_flat {b : Nat} {s : List UInt8} {i : Nat} {v : Value} {w' : World} (h : NxPost b s i v w') :
    ∃ k t wd a ok j fa fr, v = .tuple [.agg (tok4 k t wd a).toArray, .bool ok].toArray ∧ w'.heap[b]? = some (scn s j fa fr) ∧ NxRel s i k t wd a ok j fa fr := by
 unfold NxPost at h
 split at h
 ·
  rename_i hle
  obtain ⟨h1, j, h2⟩ := h
  exact ⟨0, [], 0, 0, false, j, 0, 0, h1, h2, .inr (.inl ⟨rfl, hle, rfl, rfl⟩)⟩
 ·
  rename_i hlt
  split at h
  ·
   rename_i x hx
   obtain ⟨h1, h2⟩ := h
   exact ⟨_, _, _, _, true, _, 0, 0, h1, h2, .inl ⟨rfl, x, by omega, hx, rfl, rfl, rfl, rfl, rfl, rfl, rfl⟩⟩
  ·
   rename_i rule p hx
   obtain ⟨h1, j, h2⟩ := h
   exact ⟨0, [], 0, 0, false, j, _, _, h1, h2, .inr (.inr ⟨rfl, rule, p, by omega, hx, rfl, rfl⟩)⟩
/-- what 'Scan' hands back -/
def ScanPost (s : List UInt8) (w : World) (v : Value) (w' : World) : Prop :=
 Chg [] w w' ∧ ∃ oa cap, v = .tuple [.slice oa (scanRes s).1.length cap, .int .i64 ((scanRes s).2.1 : Int), .agg [.int .i64 ((scanRes s).2.2.1 : Int), .int .i64 ((scanRes s).2.2.2 : Int)].toArray].toArray ∧
  w'.ownsRow w.heap.size 82 4 (.slice oa (scanRes s).1.length cap) (scanRes s).1.length (toksL (scanRes s).1)
set_option maxHeartbeats 1000000 in
theorem scan_any (s : List UInt8) (w : World) : Ret Tryz.prog 22 [str s] w (ScanPost s w) := by
 refine ret_of [_] func22 rfl ntmps22 rfl ?_
 have st := St.init w []
 refine vc_seq ?_
 refine vc_region ?_
 iterate 2 refine vc_y rfl rfl (y_as rfl) ?_
 refine vc_e (e_al (l := [_, _]) st rfl rfl zeroValue28 rfl ?_)
 intro b4 w hb4 st
 refine vc_end (vq_then (vc_keep [(0, _), (4, _)] ⟨rfl, rfl, trivial⟩ (vc_seq (vc_seq ?_))))
 refine vc_region ?_
 refine vc_y rfl rfl (y_mv rfl) ?_
 refine vc_y rfl rfl (y_lens rfl underlying9) ?_
 refine vc_y rfl rfl (y_gtr rfl rfl) ?_
 refine vc_end (vq_then (vc_keep [(0, _), (4, _), (11, _)] ⟨rfl, rfl, rfl, trivial⟩ ?_))
 refine vc_ifs rfl ?_ ?_
 ·
  intro hc11
  try simp only [decide_eq_true_eq, decide_eq_false_iff_not, Bool.not_eq_true', Bool.not_eq_false', Bool.not_eq_true, Bool.not_eq_false, Int.not_lt, Int.not_le, Nat.not_lt, Nat.not_le, Bool.not_true, Bool.not_false, Bool.true_eq_false, Bool.false_eq_true] at hc11
  refine vc_seq ?_
  refine vc_region ?_
  refine vc_y rfl rfl (y_bld (.agg #[_, _]) [] rfl (fun w => by simp [Instr.build, go_sem] <;> repeat' constructor)) ?_
  iterate 2 refine vc_y rfl rfl (y_as rfl) ?_
  first
  | refine vc_e (e_sts (vs := [_, _]) st 0 rfl rfl rfl rfl rfl sizeOf28 rfl rfl (by first | (right; assumption) | (left; simp)) ?_)
  | refine vc_e (e_sts (vs := [_, _]) st 1 rfl rfl rfl rfl rfl sizeOf28 rfl rfl (by first | (right; assumption) | (left; simp)) ?_)
  | refine vc_e (e_sts (vs := [_, _]) st 2 rfl rfl rfl rfl rfl sizeOf28 rfl rfl (by first | (right; assumption) | (left; simp)) ?_)
  | refine vc_e (e_sts (vs := [_, _]) st 3 rfl rfl rfl rfl rfl sizeOf28 rfl rfl (by first | (right; assumption) | (left; simp)) ?_)
  intro w st; dsimp only [setNth, wr] at st
  refine vc_end (vq_then (vc_keep [(2, _), (3, _), (4, _)] ⟨rfl, rfl, rfl, trivial⟩ (vc_ret (vq_then_ret ?_))))
  refine vq_ret3 st (.inl rfl) results22 (.tmp rfl) (.tmp rfl) (by first | exact .cell 0 rfl rfl isAgg28 sizeOf28 | exact .cell 1 rfl rfl isAgg28 sizeOf28 | exact .cell 2 rfl rfl isAgg28 sizeOf28 | exact .cell 3 rfl rfl isAgg28 sizeOf28) ?_
  refine ⟨_, rfl, ?_⟩
  have e : scanRes s = ([], 4, 0, 0) := by unfold scanRes; rw [if_pos (by omega)]
  refine ⟨st.chg, none, 0, ?_, ?_⟩
  ·
   rw [e]; rfl
  ·
   rw [e]; exact World.ownsRow_nil _ _ _ _
 ·
  intro hc11
  try simp only [decide_eq_true_eq, decide_eq_false_iff_not, Bool.not_eq_true', Bool.not_eq_false', Bool.not_eq_true, Bool.not_eq_false, Int.not_lt, Int.not_le, Nat.not_lt, Nat.not_le, Bool.not_true, Bool.not_false, Bool.true_eq_false, Bool.false_eq_true] at hc11
  replace st := st.ownNil 82 4
  refine vc_code_skip (vq_then (vc_keep [(0, _), (4, _)] ⟨rfl, rfl, trivial⟩ (vc_seq ?_)))
  refine vc_region ?_
  refine vc_y rfl rfl (y_mv rfl) ?_
  refine vc_y rfl rfl (y_bld (.agg #[_, _, _, _]) [(0, _)] rfl (fun w => by simp [Instr.build, go_sem] <;> repeat' constructor)) ?_
  refine vc_e (e_bx (l := [_, _, _, _]) st rfl rfl rfl rfl ?_)
  intro b15 w hb15 st
  refine vc_y rfl rfl (y_as rfl) ?_
  refine vc_end (vq_then (vc_keep [(4, _), (5, _)] ⟨rfl, rfl, trivial⟩ (vc_seq ?_)))
  refine vc_region ?_
  refine vc_y rfl rfl (y_as rfl) ?_
  refine vc_end (vq_then (vc_keep [(4, _), (5, _), (6, _)] ⟨rfl, rfl, rfl, trivial⟩ (vc_seq (vc_block ?_))))
  refine vc_loop (w0 := _) (M := _) (fun (x : List Tok × Nat × Option Addr × Nat) => [(4, .pointer (some ⟨b4, 0, none⟩)), (5, .pointer (some ⟨b15, 0, none⟩)), (6, .slice x.2.2.1 x.1.length x.2.2.2)]) (fun x => [.blk b15 (scn s x.2.1 0 0), .own (.slice x.2.2.1 x.1.length x.2.2.2) 82 4 x.1.length (toksL x.1), .blk b4 (.cells [.int .i64 0, .int .i64 0].toArray 28 (0, 0))]) (fun x _ => x.2.1 ≤ s.length ∧ x.1.length ≤ x.2.1 ∧ (front s).1 = x.1 ++ (scanA (s.drop x.2.1) x.2.1).1 ∧ (front s).2 = (scanA (s.drop x.2.1) x.2.1).2) (fun x => s.length - x.2.1) ([], 0, none, 0) ⟨rfl, rfl, rfl, trivial⟩ st ⟨by simp, by simp, by simp [front_eq], by simp [front_eq]⟩ ?_
  rintro ⟨l, i, oa, cap⟩ w ⟨hi, hli, hf1, hf2⟩ st
  dsimp only at *
  refine vc_block (vc_seq ?_)
  refine vc_region ?_
  refine vc_y rfl rfl (y_mv rfl) ?_
  refine vc_e (e_call [_] rfl rfl call40 rfl (next_any b15 s i _ (st.res (i := 0) rfl) hi (by omega)) ?_)
  rintro _ w ⟨cw, hp⟩
  obtain ⟨k, t, wd, a, ok, j, fa, fr, rfl, hw, hrel⟩ := nx_flat hp
  replace st := st.turn (i := 0) (r' := .blk b15 _) rfl rfl rfl cw (.inr (by assumption)) hw
  dsimp only [setNth] at st
  refine vc_y rfl rfl (y_mv rfl) ?_
  iterate 2 refine vc_y rfl rfl (y_ext rfl rfl) ?_
  refine vc_e (e_al (l := [_, _, _, _]) st rfl rfl zeroValue82 rfl ?_)
  intro b7 w hb7 st
  first
  | refine vc_e (e_sts (vs := [_, _, _, _]) st 0 rfl rfl rfl rfl rfl sizeOf82 rfl rfl (by first | (right; assumption) | (left; simp)) ?_)
  | refine vc_e (e_sts (vs := [_, _, _, _]) st 1 rfl rfl rfl rfl rfl sizeOf82 rfl rfl (by first | (right; assumption) | (left; simp)) ?_)
  | refine vc_e (e_sts (vs := [_, _, _, _]) st 2 rfl rfl rfl rfl rfl sizeOf82 rfl rfl (by first | (right; assumption) | (left; simp)) ?_)
  | refine vc_e (e_sts (vs := [_, _, _, _]) st 3 rfl rfl rfl rfl rfl sizeOf82 rfl rfl (by first | (right; assumption) | (left; simp)) ?_)
  intro w st; dsimp only [setNth, wr] at st
  refine vc_y rfl rfl (y_as rfl) ?_
  refine vc_end (vq_then (vc_keep [(4, _), (5, _), (6, _), (7, _), (8, _)] ⟨rfl, rfl, rfl, rfl, rfl, trivial⟩ (vc_seq (vc_seq ?_))))
  refine vc_region ?_
  refine vc_y rfl rfl (y_mv rfl) ?_
  refine vc_y rfl rfl (y_not rfl) ?_
  refine vc_end (vq_then (vc_keep [(4, _), (5, _), (6, _), (7, _), (22, _)] ⟨rfl, rfl, rfl, rfl, rfl, trivial⟩ ?_))
  refine vc_ifs rfl ?_ ?_
  ·
   intro hc22
   try simp only [decide_eq_true_eq, decide_eq_false_iff_not, Bool.not_eq_true', Bool.not_eq_false', Bool.not_eq_true, Bool.not_eq_false, Int.not_lt, Int.not_le, Nat.not_lt, Nat.not_le, Bool.not_true, Bool.not_false, Bool.true_eq_false, Bool.false_eq_true] at hc22
   refine vc_exit (vq_then_exit (vq_block_other rfl (vq_then_exit (vq_block_exit (vq_then (vc_keep [(4, _), (5, _), (6, _)] ⟨rfl, rfl, rfl, trivial⟩ (vc_seq (vc_seq ?_))))))))
   refine vc_region ?_
   refine vc_y rfl rfl (y_mv rfl) ?_
   refine vc_y rfl rfl (y_nck rfl) ?_
   refine vc_y rfl rfl ((by first | exact y_faz (k := 2) rfl underlying79 rfl rfl sizeOf28 rfl | exact y_fa (k := 2) rfl underlying79 rfl rfl sizeOf28 rfl)) ?_
   refine vc_y rfl rfl ((by first | exact y_faz (k := 1) rfl underlying28 rfl rfl sizeOf3 rfl | exact y_fa (k := 1) rfl underlying28 rfl rfl sizeOf3 rfl)) ?_
   refine vc_y rfl rfl ((by first | exact y_ld st 0 rfl isAgg3 rfl rfl | exact y_ld st 1 rfl isAgg3 rfl rfl | exact y_ld st 2 rfl isAgg3 rfl rfl | exact y_ld st 3 rfl isAgg3 rfl rfl)) ?_
   refine vc_y rfl rfl (y_nei rfl rfl) ?_
   refine vc_end (vq_then (vc_keep [(4, _), (5, _), (6, _), (32, _)] ⟨rfl, rfl, rfl, rfl, trivial⟩ ?_))
   refine vc_ifs rfl ?_ ?_
   ·
    intro hc32
    try simp only [decide_eq_true_eq, decide_eq_false_iff_not, Bool.not_eq_true', Bool.not_eq_false', Bool.not_eq_true, Bool.not_eq_false, Int.not_lt, Int.not_le, Nat.not_lt, Nat.not_le, Bool.not_true, Bool.not_false, Bool.true_eq_false, Bool.false_eq_true] at hc32
    refine vc_seq ?_
    refine vc_draw Tryz.mixed [(0, true), (1, true), (2, true), (3, true), (4, true), (5, true), (6, false)] (fun w => St _ _ [.blk b15 (scn s j fa fr)] w) (by first | exact st | exact st.drop (by repeat (first | exact List.Sublist.slnil | apply List.Sublist.cons_cons | apply List.Sublist.cons))) (by kernel_rfl) (by repeat (first | exact okQ_body | refine okQ_then ?_ | refine okQ_block ?_)) rfl (by kernel_rfl) ?_
    intro w cd; replace st := st.call0 cd; clear cd
    have hS : St _ _ [.blk b15 (scn s j fa fr)] w := (by first | exact st | exact st.drop (by repeat (first | exact List.Sublist.slnil | apply List.Sublist.cons_cons | apply List.Sublist.cons)))
    refine vp_take rfl rfl rfl hS (fun w st => y_mv rfl) ?_
    refine vp_take rfl rfl rfl hS (fun w st => y_nck rfl) ?_
    refine vp_take rfl rfl rfl hS (fun w st => (by first | exact y_faz (k := 2) rfl underlying79 rfl rfl sizeOf28 rfl | exact y_fa (k := 2) rfl underlying79 rfl rfl sizeOf28 rfl)) ?_
    refine vp_take rfl rfl rfl hS (fun w st => (by first | exact y_lda (vs := [_, _]) st 0 rfl isAgg28 sizeOf28 rfl rfl | exact y_lda (vs := [_, _]) st 1 rfl isAgg28 sizeOf28 rfl rfl | exact y_lda (vs := [_, _]) st 2 rfl isAgg28 sizeOf28 rfl rfl | exact y_lda (vs := [_, _]) st 3 rfl isAgg28 sizeOf28 rfl rfl)) ?_
    iterate 2 refine vp_take rfl rfl rfl hS (fun w st => y_as rfl) ?_
    first
    | refine vp_do rfl (e_sts (vs := [_, _]) st 0 rfl rfl rfl rfl rfl sizeOf28 rfl rfl (by first | (right; assumption) | (left; simp)) ?_)
    | refine vp_do rfl (e_sts (vs := [_, _]) st 1 rfl rfl rfl rfl rfl sizeOf28 rfl rfl (by first | (right; assumption) | (left; simp)) ?_)
    | refine vp_do rfl (e_sts (vs := [_, _]) st 2 rfl rfl rfl rfl rfl sizeOf28 rfl rfl (by first | (right; assumption) | (left; simp)) ?_)
    | refine vp_do rfl (e_sts (vs := [_, _]) st 3 rfl rfl rfl rfl rfl sizeOf28 rfl rfl (by first | (right; assumption) | (left; simp)) ?_)
    intro w st; dsimp only [setNth, wr] at st
    refine vp_next (by first | exact st | exact st.drop (by repeat (first | exact List.Sublist.slnil | apply List.Sublist.cons_cons | apply List.Sublist.cons))) ?_; intro hS
    refine vp_end (vq_then (vc_keep [(2, _), (3, _), (4, _)] ⟨rfl, rfl, rfl, trivial⟩ (vc_ret (vq_then_ret ?_))))
    refine vq_ret3 st (.inl rfl) results22 (.tmp rfl) (.tmp rfl) (by first | exact .cell 0 rfl rfl isAgg28 sizeOf28 | exact .cell 1 rfl rfl isAgg28 sizeOf28 | exact .cell 2 rfl rfl isAgg28 sizeOf28 | exact .cell 3 rfl rfl isAgg28 sizeOf28) ?_
    refine ⟨_, rfl, ?_⟩
    rcases hrel with ⟨h, _⟩ | ⟨_, _, _, h⟩ | ⟨_, rule, p, hlt, hx, rfl, rfl⟩
    ·
     simp [h] at hc22
    ·
     exact absurd h hc32
    ·
     have hsc := scanA_bad (r := s.drop i) (i := i) (by simp; omega) (by rw [List.drop_drop]; exact hx)
     have e : scanRes s = ([], 20, p, rule) := by unfold scanRes; rw [if_neg (by omega), hf2, hsc]
     refine ⟨st.chg, none, 0, ?_, ?_⟩
     ·
      rw [e]; rfl
     ·
      rw [e]; exact World.ownsRow_nil _ _ _ _
   ·
    intro hc32
    try simp only [decide_eq_true_eq, decide_eq_false_iff_not, Bool.not_eq_true', Bool.not_eq_false', Bool.not_eq_true, Bool.not_eq_false, Int.not_lt, Int.not_le, Nat.not_lt, Nat.not_le, Bool.not_true, Bool.not_false, Bool.true_eq_false, Bool.false_eq_true] at hc32
    refine vc_code_skip (vq_then (vc_keep [(4, _), (6, _)] ⟨rfl, rfl, trivial⟩ (vc_seq ?_)))
    refine vc_region ?_
    refine vc_y rfl rfl (y_mv rfl) ?_
    refine vc_y rfl rfl (y_bld (.agg #[_, _]) [] rfl (fun w => by simp [Instr.build, go_sem] <;> repeat' constructor)) ?_
    iterate 2 refine vc_y rfl rfl (y_as rfl) ?_
    first
    | refine vc_e (e_sts (vs := [_, _]) st 0 rfl rfl rfl rfl rfl sizeOf28 rfl rfl (by first | (right; assumption) | (left; simp)) ?_)
    | refine vc_e (e_sts (vs := [_, _]) st 1 rfl rfl rfl rfl rfl sizeOf28 rfl rfl (by first | (right; assumption) | (left; simp)) ?_)
    | refine vc_e (e_sts (vs := [_, _]) st 2 rfl rfl rfl rfl rfl sizeOf28 rfl rfl (by first | (right; assumption) | (left; simp)) ?_)
    | refine vc_e (e_sts (vs := [_, _]) st 3 rfl rfl rfl rfl rfl sizeOf28 rfl rfl (by first | (right; assumption) | (left; simp)) ?_)
    intro w st; dsimp only [setNth, wr] at st
    refine vc_end (vq_then (vc_keep [(2, _), (3, _), (4, _)] ⟨rfl, rfl, rfl, trivial⟩ (vc_ret ?_)))
    refine vq_ret3 st (.inl rfl) results22 (.tmp rfl) (.tmp rfl) (by first | exact .cell 0 rfl rfl isAgg28 sizeOf28 | exact .cell 1 rfl rfl isAgg28 sizeOf28 | exact .cell 2 rfl rfl isAgg28 sizeOf28 | exact .cell 3 rfl rfl isAgg28 sizeOf28) ?_
    refine ⟨_, rfl, ?_⟩
    rcases hrel with ⟨h, _⟩ | ⟨_, hle, _, h⟩ | ⟨_, rule, p, hlt, hx, rfl, rfl⟩
    ·
     simp [h] at hc22
    ·
     have hsc := scanA_end (r := s.drop i) (i := i) (by simp; omega)
     have e : scanRes s = (l, 0, 0, 0) := by unfold scanRes; rw [if_neg (by omega), hf2, hsc, hf1, hsc]; simp
     refine ⟨st.chg, oa, cap, ?_, ?_⟩
     ·
      rw [e]; rfl
     ·
      rw [e]; exact st.res (i := 2) rfl
    ·
     have := bad_rule hx; omega
  ·
   intro hc22
   try simp only [decide_eq_true_eq, decide_eq_false_iff_not, Bool.not_eq_true', Bool.not_eq_false', Bool.not_eq_true, Bool.not_eq_false, Int.not_lt, Int.not_le, Nat.not_lt, Nat.not_le, Bool.not_true, Bool.not_false, Bool.true_eq_false, Bool.false_eq_true] at hc22
   refine vc_code_skip (vq_then (vc_keep [(4, _), (5, _), (6, _), (7, _)] ⟨rfl, rfl, rfl, rfl, trivial⟩ ?_))
   refine vc_region ?_
   refine vc_y rfl rfl (y_mv rfl) ?_
   refine vc_y rfl rfl ((by first | exact y_lda (vs := [_, _, _, _]) st 0 rfl isAgg82 sizeOf82 rfl rfl | exact y_lda (vs := [_, _, _, _]) st 1 rfl isAgg82 sizeOf82 rfl rfl | exact y_lda (vs := [_, _, _, _]) st 2 rfl isAgg82 sizeOf82 rfl rfl | exact y_lda (vs := [_, _, _, _]) st 3 rfl isAgg82 sizeOf82 rfl rfl)) ?_
   refine vc_e (e_bs1 (l := [_, _, _, _]) st rfl rfl rfl rfl underlying45 sizeOf82 rfl rfl rfl zeroValue82 ?_)
   intro b25 w hb25 st
   refine vc_e (e_app (bytes := 40) st 3 0 rfl rfl rfl rfl rfl rfl underlying45 Tryz.info82 rfl rfl rfl rfl rfl (by simp) rfl rfl (by unfold maxLen; omega) (by omega) ?_)
   intro oa26 cap26 w st; dsimp only [setNth] at st
   refine vc_y rfl rfl (y_as rfl) ?_
   refine vc_end (vq_block ?_)
   rcases hrel with ⟨_, x, hlt, hx, rfl, rfl, rfl, rfl, rfl, rfl, rfl⟩ | ⟨h, _⟩ | ⟨h, _⟩
   ·
    have hx1 := tok_len hx
    have hxl : x.text.length ≤ s.length - (i + skip (List.drop i s)) := by have h := congrArg List.length hx1.2.1; simp at h; omega
    have hsc := scanA_tok (r := s.drop i) (i := i) (by simp; omega) (by rw [List.drop_drop]; exact hx)
    rw [List.drop_drop, ← Nat.add_assoc] at hsc
    refine vq_again (l ++ [x], i + skip (List.drop i s) + x.text.length, oa26, cap26) ⟨rfl, rfl, by simp only [List.length_append, List.length_cons, List.length_nil]; rfl, trivial⟩ ?_ ⟨by dsimp only; omega, by simp; omega, ?_, ?_⟩ (by dsimp only; omega)
    ·
     simp only [List.length_append, List.length_cons, List.length_nil, toksL_snoc]
     exact st.drop (by repeat (first | exact List.Sublist.slnil | apply List.Sublist.cons_cons | apply List.Sublist.cons))
    ·
     rw [hf1, hsc]; simp
    ·
     rw [hf2, hsc]
   ·
    simp [h] at hc22
   ·
    simp [h] at hc22

end Go.Proofs.YtggnfanphcaamaaGreatDoor


/- The tokens of a text: how many, and of what kinds. -/
namespace ParS
open Sx LexS
set_option linter.unusedVariables false
set_option linter.unusedSimpArgs false
theorem numV_le {l : List UInt8} {n : Nat} (h : numV l = some n) : n ≤ 9223372036854775807 := by
  unfold numV at h
  split at h
  · cases h
  · rename_i hc
    cases h
    rw [not_or, not_or, not_or] at hc
    omega
theorem scan_ok : ∀ (T : List Tok) (r : List UInt8) (i : Nat) (f : Option (Nat × Nat)), scanA r i = (T, f) → T.length ≤ r.length ∧ ∀ t ∈ T, (t.kind = 1 → isName t.text = true) ∧ t.word ≤ 9223372036854775807 ∧ t.at_ ≤ i + r.length
  | [], r, i, f, h => ⟨Nat.zero_le _, by simp⟩
  | t :: T, r, i, f, h => by
    obtain ⟨h1, h2, h3⟩ := scan_inv h
    obtain ⟨h4, h5, h6⟩ := tok_len h2
    obtain ⟨h7, h8⟩ := scan_ok T _ _ _ h3
    rw [List.length_drop] at h7 h8
    have h9 : t.text.length ≤ r.length - skip r := by
      have := congrArg List.length h5
      rw [List.length_take, List.length_drop] at this
      omega
    refine ⟨by simp only [List.length_cons]; omega, fun x hx => ?_⟩
    rcases List.mem_cons.1 hx with rfl | hx
    · refine ⟨fun hk => ?_, ?_, by omega⟩
      · rcases tok_right h2 with h | h | h | h
        · exact h.2.1
        · omega
        · omega
        · omega
      · rcases tok_right h2 with h | h | h | h
        · omega
        · omega
        · exact numV_le h.2
        · omega
    · obtain ⟨a, b, c⟩ := h8 x hx
      exact ⟨a, b, by omega⟩
theorem front_ok {s : List UInt8} {T : List Tok} {f : Option (Nat × Nat)} (h : front s = (T, f)) : T.length ≤ s.length ∧ ∀ t ∈ T, (t.kind = 1 → isName t.text = true) ∧ t.word ≤ 9223372036854775807 ∧ t.at_ ≤ s.length := by
  rw [front_eq] at h
  have := scan_ok T s 0 f h
  simpa using this
end ParS


/- A function that defers a closure that recovers. -/
namespace Sx
open Go Go.RowKit
set_option linter.unusedVariables false
set_option linter.unusedSimpArgs false
section
variable {P : Program} {n : Fr} {L : List Oper} {Q : Exit → Act → World → Prop} {kn : Kn} {w w0 : World} {M : List Nat} {hs : List Res} {rest : List Oper}
variable {d ty : Nat} {pos : String} {aft : Array Edge} {g : Option (Nat × Bool)}
variable {N : Act → World → Prop}
/-- where a callee's panic goes on, the frame known -/
abbrev PanK (n : Fr) (kn : Kn) (Q : Exit → Act → World → Prop) (v : Value) (w : World) : Prop := ∀ a : Act, K n kn a → Q (.panic (pch v)) a w
theorem e_callk {f : FuncId} {args : Array Operand} {tys : Array TypeId} (vals : List Value) {Φ Ψ : Value → World → Prop} (hw : gd L kn g = some true) (hd : okDst n (some d) = true)
    (hcall : ∀ (az : Array Value) w, (callFunc f az).run P w = .ok (.enter f az) w)
    (hv : args.toList.map (evO kn) = vals.map some)
    (c : RetP P f vals w Φ Ψ) (pan : ∀ v w', Ψ v w' → PanK n kn Q v w') (next : ∀ v w', Φ v w' → vN n N ((d, v) :: kn) w') :
    vS P n L Q ⟨some d, .call ⟨.value (.func f), args, tys⟩, ty, pos, aft, g⟩ N kn w := by
  intro a ha
  rw [if_pos (ha.gd hw)]
  refine .inl ?_
  unfold Oper.wp
  have hrun : (execOp a.eval ⟨some d, .call ⟨.value (.func f), args, tys⟩, ty, pos, aft, g⟩).run P w = .ok (.enter f vals.toArray) w := by
    have hargs := evs_map ha hv
    simp only [execOp, resolve, hargs, Act.eval]
    simp [Deferred.ofValue, invoke, hcall]
  rw [hrun]
  refine Calls.mono c ?_
  rintro e w' (⟨v, rfl, hv⟩ | ⟨v, rfl, hv⟩)
  · exact next v w' hv _ (ha.put hd v)
  · exact pan v w' hv a ha
/-- 'defer' of a closure -/
theorem e_deferV {x : Operand} {f : FuncId} {cap : List Value} {tys : Array TypeId} {m : Nat} {ds : List Deferred} (hn : n = (m, ds)) (hw : gd L kn g = some true)
    (hx : evO kn x = some (.func (.func f) #[] cap.toArray)) (next : vN (m, ⟨.fn (.func f) cap.toArray, #[]⟩ :: ds) N kn w) :
    vS P n L Q ⟨none, .defer ⟨.value x, #[], tys⟩, ty, pos, aft, g⟩ N kn w :=
  e_defer hn hw rfl (fun a ha => by
    simp only [execOp, resolve, ha.ev hx]
    simp [Deferred.ofValue]) next
theorem vqd_post {m : Nat} {fn : Func} {R : Ending → World → Prop} {e : Exit} {v : Value} (he : e = .ret ∨ e = .normal) (hr : ∀ a, K (m, []) kn a → (results fn a.tmps).run P w = .ok v w) (hR : R (.returned v) w) : vcQ (m, []) (bodyPostD P fn R) e kn w := by
  intro a ha
  have key : Leaves P fn a.tmps R a.defers .returning w := by rw [ha.defers]; exact ⟨v, hr a ha, hR⟩
  rcases he with rfl | rfl <;> exact key
theorem results3 {fn : Func} {r1 r2 r3 : ResultVar} {v1 v2 v3 : Value} {m : Nat} {ds : List Deferred} (st : St w0 M hs w) (hf : fn.results = #[r1, r2, r3]) (h1 : ResV P hs kn r1 v1) (h2 : ResV P hs kn r2 v2) (h3 : ResV P hs kn r3 v3) :
    ∀ a, K (m, ds) kn a → (results fn a.tmps).run P w = .ok (.tuple #[v1, v2, v3]) w := fun a ha => by
  simp [results_eq, hf, h1.run st ha, h2.run st ha, h3.run st ha]
theorem retd_of {m : Nat} {f : FuncId} {fn : Func} {c : Code} (vals : List Value) {Φ : Value → World → Prop} (hf : P.funcs[f]? = some fn) (hb : fn.body = some c) (hn : fn.ntmps = m) (hle : Nat.ble vals.length m = true)
    (h : vcC P (m, []) c (bodyPostD P fn fun e w' => ∃ v, e = .returned v ∧ Φ v w') (enumKn 0 vals) w) : Ret P f vals w Φ := vcd_enter hf hb hn hle h
/-- a panic's end, where a deferred closure recovers -/
theorem pan_leave {m : Nat} {fn : Func} {R : Ending → World → Prop} {f : FuncId} {cap : List Value} {v : Value} {Φ : World → Prop}
    (hcall : ∀ (az : Array Value) w, (callFunc f az).run P w = .ok (.enter f az) w)
    (h : DefCatch P f cap.toArray v w Φ) (hres : ∀ w', Φ w' → ∃ r, (∀ a, K (m, [⟨.fn (.func f) cap.toArray, #[]⟩]) kn a → (results fn a.tmps).run P w' = .ok r w') ∧ R (.returned r) w') :
    PanK (m, [⟨.fn (.func f) cap.toArray, #[]⟩]) kn (bodyPostD P fn R) v w := by
  intro a ha
  show Leaves P fn a.tmps R a.defers (.panicking (pch v)) w
  rw [ha.defers]
  refine leaves_cons (f := f) (args := cap.toArray) (by simp) (by simp [invoke, hcall]) (h.mono ?_)
  rintro e u' w' ⟨⟨x, rfl⟩, rfl, hΦ⟩
  obtain ⟨r, h1, h2⟩ := hres w' hΦ
  exact ⟨r, h1 a ha, h2⟩
theorem e_bxn (st : St w0 M hs w) {x : Operand} {T : Nat} {v : Value} {l : List Value} (hw : gd L kn g = some true) (hd : okDst n (some d) = true)
    (hx : evO kn x = some v) (hl : v.cells.toList = l)
    (next : ∀ b w', b = w.heap.size → w0.heap.size ≤ b → St w0 M (.blk b (.cells l.toArray T (0, 0)) :: hs) w' → vN n N ((d, .pointer (some ⟨b, 0, none⟩)) :: kn) w') : vS P n L Q (⟨some d, .box T x, ty, pos, aft, g⟩) N kn w :=
  e_new st (v := .pointer (some ⟨w.heap.size, 0, none⟩)) (l := l) (E := T) hw hd (fun a ha => by
    have : v.cells = l.toArray := by rw [← hl]
    simp only [execOp, ha.ev hx, Instr.box, ← this]
    rfl) (fun b w' e hb st' => by subst e; exact next _ w' rfl hb st')
theorem y_ta {x : Operand} {T U : Nat} {v : Value} {fs : Array Field} (hx : evO kn x = some (.iface T v)) (ht : P.underlying T = some (.struct fs)) : Y P n kn w ⟨some d, .typeAssert x U T false, ty, pos, aft, g⟩ v := fun a ha => by
  simp only [execOp, ha.ev hx]
  simp [Instr.typeAssert, run_underlying ht]
/-- a field that is a struct, of a struct that is a value -/
theorem y_fldA {T i off sz : Nat} {x : Operand} {cs vs : List Value} {fs : Array Field} {f : Field} (hx : evO kn x = some (.agg cs.toArray)) (ht : P.underlying T = some (.struct fs)) (hf : nth fs.toList i = some f) (ho : f.offset = off)
    (ha : ∀ w, (Go.isAgg f.type).run P w = .ok true w) (hs : ∀ w, (Go.sizeOf f.type).run P w = .ok sz w) (hv : takeN sz (dropN cs off) = some vs) : Y P n kn w ⟨some d, .field T x i, ty, pos, aft, g⟩ (.agg vs.toArray) := fun a hk => by
  subst ho
  rw [nth_eq] at hf
  have hf' : fs[i]? = some f := by simpa using hf
  simp only [execOp, hk.ev hx]
  simp [Instr.field, run_underlying ht, hf', asAgg, run_partA ha hs hv]
end
/-- a deferred closure's post does not look at the temporaries of a panic -/
theorem okQ_bodyS {P : Program} {fn : Func} {c0 : Frame} {cs cs' : List Frame} {R : Ending → FrameMode → World → Prop} : okQ (fun e a w => bodyPostS P fn c0 cs R e a cs' w) := fun c a a' w h hq => by
  obtain ⟨h1, h2⟩ := hq
  exact ⟨h ▸ h1, h2⟩
end Sx
namespace Sx
open Go Go.RowKit
theorem St.of3 {w : World} {b c e : Nat} {o p q : Obj} (M : List Nat) (h : w.heap[b]? = some o) (h' : w.heap[c]? = some p) (h'' : w.heap[e]? = some q) (h1 : b ≠ c) (h2 : b ≠ e) (h3 : c ≠ e) : St w M [.blk b o, .blk c p, .blk e q] w :=
  ⟨Chg.refl M w, List.pairwise_cons.2 ⟨by simp [Res.at?, h1, h2], List.pairwise_cons.2 ⟨by simp [Res.at?, h3], List.pairwise_singleton _ _⟩⟩, by simp [Res.holds, h, h', h'']⟩
/-- the frame of a deferred closure, as far as it is known -/
theorem K.of {m : Nat} {kn : Kn} {t : Array Value} (hs : t.size = m) (h : ∀ i v, find kn i = some v → t[i]? = some v) : K (m, []) kn { tmps := t, defers := [] } := ⟨rfl, hs, h⟩
theorem wp_of_vc {P : Program} {n : Fr} {c : Code} {Q : Exit → Act → World → Prop} {kn : Kn} {a : Act} {w : World} (ha : K n kn a) (h : vcC P n c Q kn w) : c.wp P Q a w := h a ha
/-- a region none of whose operations ends in a panic -/
def noPan (Q : Exit → Act → World → Prop) : Exit → Act → World → Prop := fun e a w => (match e with | .panic _ => False | _ => True) ∧ Q e a w
theorem okQ_noPan {Q : Exit → Act → World → Prop} : okQ (noPan Q) := fun _ _ _ _ _ hq => hq.1.elim
theorem vc_noPan {P : Program} {n : Fr} {c : Code} {Q : Exit → Act → World → Prop} {kn : Kn} {w : World} (h : vcC P n c (noPan Q) kn w) : vcC P n c Q kn w := fun a ha => Code.wp_mono (fun _ _ _ h => h.2) (h a ha)
theorem vq_noPan {n : Fr} {Q : Exit → Act → World → Prop} {kn : Kn} {w : World} (h : vcQ n Q .normal kn w) : vcQ n (noPan Q) .normal kn w := fun a ha => ⟨trivial, h a ha⟩
end Sx


namespace Go.Proofs.YtggnfanphcaamaaGreatDoor
open Go.RowKit Sx LexS ParS
set_option linter.unusedVariables false
set_option linter.unusedSimpArgs false
theorem toks_chunk : ∀ {ts : List Tok} {j : Nat} {t : Tok}, ts[j]? = some t → ((toksL ts).drop (j * 4)).take 4 = tkL t
 | [], j, t, h => by simp at h
 | x :: r, 0, t, h => by
  simp only [List.getElem?_cons_zero, Option.some.injEq] at h
  subst h
  simp [toksL, tokL]
 | x :: r, j + 1, t, h => by
  have e : toksL (x :: r) = tokL x ++ toksL r := by simp [toksL]
  rw [e, show (j + 1) * 4 = (tokL x).length + j * 4 by simp [tokL]; omega, ← List.drop_drop, List.drop_left]
  exact toks_chunk (by simpa using h)
/-- a parser at a text's beginning -/
structure PNew (s : List UInt8) (n : Nat) (c : PCtx) (w' : World) : Prop where
 R : c.R = 40
 g : c.g = 1
 ts : c.ts = (front s).1
 e : c.e = s.length
 n0 : c.n0 = c.pb
 own : w'.ownsRow n 82 4 (.slice c.oa c.ts.length c.cap) c.ts.length (toksL c.ts)
 at_ : PAt c c.ts w'
 le : n ≤ c.pb
 lt : ∀ b ∈ obk c.oa, b < c.pb
 slen : s.length ≤ 65536
theorem PNew.ok {s : List UInt8} {n base : Nat} {c : PCtx} {r : List Tok} {w w' : World} (h : PNew s n c w) (hrow : w'.ownsRow base 82 4 (.slice c.oa c.ts.length c.cap) c.ts.length (toksL c.ts)) (hs : SigAt 1 w') (hp : PAt c r w') (h0 : 1 < n) : PCok c w' := by
 obtain ⟨hlen, hok⟩ := front_ok (s := s) (T := (front s).1) (f := (front s).2) rfl
 rw [← h.ts] at hlen hok
 have := h.slen
 refine ⟨?_, by rw [h.n0]; exact Nat.le_refl _, by rw [h.g, h.n0]; exact Nat.lt_of_lt_of_le h0 h.le, by omega, by rw [h.e]; omega, by rw [h.g]; exact hs, by rw [h.n0]; exact Nat.le_of_lt (Array.getElem?_eq_some_iff.1 hp).1, fun t ht => (hok t ht).2.1⟩
 refine (rowC_own (S := (· < c.n0)) (owns_mono hrow (fun b _ => Nat.zero_le _)) (fun b hb => by rw [h.n0]; exact h.lt b hb)).imp id fun ⟨g, off, e1, hb, hl, hc⟩ => ⟨g, off, e1, hb, hl, fun j hj => ?_⟩
 have := hc j hj
 dsimp only at this
 rw [toks_chunk (List.getElem?_eq_getElem hj)] at this
 simpa only [List.getD, List.getElem?_eq_getElem hj, Option.getD_some] using this
def BegunPost (s : List UInt8) (w : World) (v : Value) (w' : World) : Prop := Chg [] w w' ∧
 ((65536 < s.length ∧ v = .tuple #[.pointer none, .int .i64 4, .agg #[.int .i64 0, .int .i64 0]]) ∨
  (s.length ≤ 65536 ∧ ∃ rule p : Nat, (front s).2 = some (rule, p) ∧ v = .tuple #[.pointer none, .int .i64 30, .agg #[.int .i64 (p : Int), .int .i64 1]]) ∨
  (s.length ≤ 65536 ∧ (front s).2 = none ∧ ∃ c, PNew s w.heap.size c w' ∧ v = .tuple #[.pointer (some ⟨c.pb, 0, none⟩), .int .i64 0, .agg #[.int .i64 0, .int .i64 0]]))

theorem begun_any (s : List UInt8) (w : World) (hs : SigAt 1 w) : Ret Tryz.prog 11 [str s] w (BegunPost s w) := by
 refine ret_of [_] Tryz.func11 rfl Tryz.ntmps11 rfl ?_
 have st := St.init w []
 obtain ⟨w0, rfl⟩ : ∃ w0, w0 = w := ⟨_, rfl⟩
 refine vc_seq (vc_region ?_)
 iterate 2 refine vc_y rfl rfl (y_as rfl) ?_
 refine vc_e (e_al (l := [_, _]) st rfl rfl Tryz.zeroValue28 rfl ?_)
 intro b4 w hb4 st
 refine vc_end (vq_then (vc_keep [(0, _), (4, _)] ⟨rfl, rfl, trivial⟩ (vc_seq (vc_region ?_))))
 refine vc_y rfl rfl (y_mv rfl) ?_
 refine vc_e (e_call [_] rfl rfl Tryz.call22 rfl (scan_any s _) ?_)
 rintro _ w ⟨cw, to, tc, rfl, hown⟩
 replace st := St.pushOwn st cw hown
 obtain ⟨T, e, pl, ru, hT⟩ : ∃ T e pl ru, scanRes s = (T, e, pl, ru) := ⟨_, _, _, _, rfl⟩
 rw [hT] at st hown ⊢
 dsimp only at st hown ⊢
 refine vc_y rfl rfl (y_mv rfl) ?_
 iterate 3 refine vc_y rfl rfl (y_ext rfl rfl) ?_
 refine vc_e (e_al (l := [_, _]) st rfl rfl Tryz.zeroValue28 rfl ?_)
 intro b7 w hb7 st
 iterate 2 refine vc_y rfl rfl (y_as rfl) ?_
 refine vc_e (e_sts (vs := [_, _]) st 0 rfl rfl rfl rfl rfl Tryz.sizeOf28 rfl rfl (by first | (right; assumption) | (left; simp)) ?_)
 intro w st; dsimp only [setNth, wr] at st
 refine vc_end (vq_then (vc_keep [(0, _), (4, _), (5, _), (6, _), (7, _)] ⟨rfl, rfl, rfl, rfl, rfl, trivial⟩ (vc_seq (vc_seq (vc_region ?_)))))
 refine vc_y rfl rfl (y_mv rfl) ?_
 refine vc_end (vq_then (vc_keep [(0, _), (4, _), (5, _), (6, _), (7, _), (14, _)] ⟨rfl, rfl, rfl, rfl, rfl, rfl, trivial⟩ (vc_block (vc_seq (vc_region ?_)))))
 refine vc_y rfl rfl (y_eqi rfl rfl) ?_
 refine vc_y rfl rfl (y_as rfl) ?_
 refine vc_end (vq_then (vc_keep [(0, _), (4, _), (5, _), (6, _), (7, _), (14, _), (15, _)] ⟨rfl, rfl, rfl, rfl, rfl, rfl, rfl, trivial⟩ ?_))
 refine vc_ifs rfl ?_ ?_
 ·
  intro hc15
  try simp only [dn] at hc15
  have he : e = 0 := by omega
  subst he
  have hsc : s.length ≤ 65536 ∧ (front s).2 = none ∧ T = (front s).1 := by
   unfold scanRes at hT
   split at hT
   ·
    cases hT
   ·
    rename_i hl
    split at hT
    ·
     rename_i hf; simp only [Prod.mk.injEq] at hT; exact ⟨by omega, hf, hT.1.symm⟩
    ·
     cases hT
  obtain ⟨hle, hfr, rfl⟩ := hsc
  obtain ⟨hlen, hok⟩ := front_ok (s := s) (T := (front s).1) (f := (front s).2) rfl
  refine vc_seq (vc_region ?_)
  iterate 2 refine vc_y rfl rfl (y_mv rfl) ?_
  refine vc_y rfl rfl (y_lens rfl Tryz.underlying9) ?_
  refine vc_y rfl rfl (y_bld (.agg #[_, _, _]) [(0, _), (2, _)] rfl (fun w => by simp [Instr.build, go_sem] <;> repeat' constructor)) ?_
  have hbt : ∀ b ∈ obk to, b < w.heap.size := fun b hb => (owns_lt (st.res (i := 1) rfl) b hb).2
  refine vc_e (e_bxn (l := [_, _, _]) st rfl rfl rfl rfl ?_)
  intro b21 w hbe hb21 st
  refine vc_y rfl rfl (y_bld (.agg #[_, _]) [] rfl (fun w => by simp [Instr.build, go_sem] <;> repeat' constructor)) ?_
  iterate 2 refine vc_y rfl rfl (y_as rfl) ?_
  refine vc_e (e_sts (vs := [_, _]) st 3 rfl rfl rfl rfl rfl Tryz.sizeOf28 rfl rfl (by first | (right; assumption) | (left; simp)) ?_)
  intro w st; dsimp only [setNth, wr] at st
  refine vc_end (vq_then (vc_keep [(2, _), (3, _), (4, _)] ⟨rfl, rfl, rfl, trivial⟩ (vc_ret (vq_block_ret (vq_then_ret ?_)))))
  refine vq_ret3 st (.inl rfl) Tryz.results11 (.tmp rfl) (.tmp rfl) (by exact .cell 3 rfl rfl Tryz.isAgg28 Tryz.sizeOf28) ?_
  refine ⟨_, rfl, ?_⟩
  refine ⟨st.chg, .inr (.inr ⟨hle, hfr, ⟨b21, b21, to, tc, (front s).1, s.length, 68, 40, 1⟩, ⟨rfl, rfl, rfl, rfl, rfl, st.res (i := 2) rfl, ?_, hb21, ?_, hle⟩, rfl⟩)⟩
  ·
   show w.heap[b21]? = _
   have h2 : w.heap[b21]? = some (.cells [.slice to (front s).1.length tc, .int .i64 0, .int .i64 (s.length : Int)].toArray 68 (0, 0)) := st.res (i := 0) rfl
   rw [h2]; simp [pcell]
  ·
   intro b hb; show b < b21; rw [hbe]; exact hbt b hb
 ·
  intro hc15
  try simp only [dn] at hc15
  refine vc_seq (vc_region ?_)
  refine vc_y rfl rfl (y_eqi rfl rfl) ?_
  refine vc_y rfl rfl (y_as rfl) ?_
  refine vc_end (vq_then (vc_keep [(4, _), (6, _), (7, _), (23, _)] ⟨rfl, rfl, rfl, rfl, trivial⟩ ?_))
  refine vc_ifs rfl ?_ ?_
  ·
   intro hc23
   try simp only [dn] at hc23
   have he : e = 4 := by omega
   have hsc : 65536 < s.length := by
    unfold scanRes at hT
    split at hT
    ·
     assumption
    ·
     split at hT
     ·
      simp only [Prod.mk.injEq] at hT; omega
     ·
      simp only [Prod.mk.injEq] at hT; omega
   refine vc_seq (vc_region ?_)
   refine vc_y rfl rfl (y_mv rfl) ?_
   refine vc_y rfl rfl (y_bld (.agg #[_, _]) [] rfl (fun w => by simp [Instr.build, go_sem] <;> repeat' constructor)) ?_
   iterate 2 refine vc_y rfl rfl (y_as rfl) ?_
   refine vc_e (e_sts (vs := [_, _]) st 2 rfl rfl rfl rfl rfl Tryz.sizeOf28 rfl rfl (by first | (right; assumption) | (left; simp)) ?_)
   intro w st; dsimp only [setNth, wr] at st
   refine vc_end (vq_then (vc_keep [(2, _), (3, _), (4, _)] ⟨rfl, rfl, rfl, trivial⟩ (vc_ret (vq_block_ret (vq_then_ret ?_)))))
   refine vq_ret3 st (.inl rfl) Tryz.results11 (.tmp rfl) (.tmp rfl) (by exact .cell 2 rfl rfl Tryz.isAgg28 Tryz.sizeOf28) ?_
   refine ⟨_, rfl, ?_⟩
   refine ⟨st.chg, .inl ⟨hsc, ?_⟩⟩
   rw [he]; rfl
  ·
   intro hc23
   try simp only [dn] at hc23
   have hsc : s.length ≤ 65536 ∧ (front s).2 = some (ru, pl) := by
    unfold scanRes at hT
    split at hT
    ·
     simp only [Prod.mk.injEq] at hT; omega
    ·
     rename_i hl
     split at hT
     ·
      simp only [Prod.mk.injEq] at hT; omega
     ·
      rename_i hf; simp only [Prod.mk.injEq] at hT
      obtain ⟨-, -, rfl, rfl⟩ := hT
      exact ⟨by omega, hf⟩
   refine vc_code_skip (vq_block (vq_then (vc_keep [(4, _), (7, _)] ⟨rfl, rfl, trivial⟩ (vc_seq ?_))))
   refine vc_draw Tryz.mixed [(0, true), (1, true), (2, true), (3, true), (4, true), (5, false)] (fun w => St _ _ [.blk b7 (.cells [.int .i64 (pl : Int), .int .i64 (ru : Int)].toArray 28 (0, 0))] w) (by exact st.drop (by repeat (first | exact sl0 | apply sl1 | apply sl2))) (by kernel_rfl) (by repeat (first | exact okQ_noPan | exact okQ_body | exact okQ_bodyS | refine okQ_then ?_ | refine okQ_block ?_)) rfl (by kernel_rfl) ?_
   intro w cd; replace st := st.call0 cd; clear cd
   have hS : St _ _ [.blk b7 (.cells [.int .i64 (pl : Int), .int .i64 (ru : Int)].toArray 28 (0, 0))] w := (by exact st.drop (by repeat (first | exact sl0 | apply sl1 | apply sl2)))
   refine vp_take rfl rfl rfl hS (fun w st => y_fa0 rfl Tryz.underlying28 rfl rfl Tryz.sizeOf3 rfl) ?_
   refine vp_take rfl rfl rfl hS (fun w st => (by exact y_ld st 0 rfl Tryz.isAgg3 rfl rfl)) ?_
   refine vp_take rfl rfl rfl hS (fun w st => y_bld (.agg #[_, _]) [(0, _), (1, _)] rfl (fun w => by simp [Instr.build, go_sem] <;> repeat' constructor)) ?_
   iterate 2 refine vp_take rfl rfl rfl hS (fun w st => y_as rfl) ?_
   refine vp_do rfl (e_sts (vs := [_, _]) st 2 rfl rfl rfl rfl rfl Tryz.sizeOf28 rfl rfl (by first | (right; assumption) | (left; simp)) ?_)
   intro w st; dsimp only [setNth, wr] at st
   refine vp_next (by exact st.drop (by repeat (first | exact sl0 | apply sl1 | apply sl2))) ?_; intro hS
   refine vp_end (vq_then (vc_keep [(2, _), (3, _), (4, _)] ⟨rfl, rfl, rfl, trivial⟩ (vc_ret ?_)))
   refine vq_ret3 st (.inl rfl) Tryz.results11 (.tmp rfl) (.tmp rfl) (by exact .cell 2 rfl rfl Tryz.isAgg28 Tryz.sizeOf28) ?_
   refine ⟨_, rfl, ?_⟩
   exact ⟨st.chg, .inr (.inl ⟨hsc.1, ru, pl, hsc.2, rfl⟩)⟩

end Go.Proofs.YtggnfanphcaamaaGreatDoor


/- The engine, eighth part: a statement whose order is drawn, two operations at a time. -/
namespace Sx
open Go Go.RowKit
set_option linter.unusedVariables false
set_option linter.unusedSimpArgs false

inductive Pl where
  | done
  | take (i : Nat) (r : Pl)
  | one (i : Nat) (r : Pl)
  | two (i j : Nat) (r s : Pl)

def Pl.len : Pl → Nat
  | .done => 0
  | .take _ r => r.len + 1
  | .one _ r => r.len + 1
  | .two _ _ r _ => r.len + 1

def plOK (L : Array Oper) : Pl → Array Bool → Bool
  | .done, listed => (Region.ready .any L listed).isEmpty
  | .take i r, listed => (Region.ready .any L listed).contains i && Region.free .any L listed i && plOK L r (listed.setIfInBounds i true)
  | .one i r, listed => (Region.ready .any L listed == [i]) && plOK L r (listed.setIfInBounds i true)
  | .two i j r s, listed => (Region.ready .any L listed == [i, j]) && (r.len == s.len) && plOK L r (listed.setIfInBounds i true) && plOK L s (listed.setIfInBounds j true)

section
variable {P : Program} {n : Fr} {L : List Oper} {Q : Exit → Act → World → Prop} {kn : Kn} {w : World} {S : World → Prop}

def vD (P : Program) (n : Fr) (L : List Oper) (Q : Exit → Act → World → Prop) (S : World → Prop) (plan : Pl) (kn : Kn) (w : World) : Prop :=
  ∀ a listed, okQ Q → Region.noSelect L.toArray = true → K n kn a → plOK L.toArray plan listed = true → wpAnyH P .any L.toArray Q S plan.len listed a w

def ND (P : Program) (L : List Oper) (Q : Exit → Act → World → Prop) (S : World → Prop) (plan : Pl) (a : Act) (w : World) : Prop :=
  S w ∧ (okQ Q → Region.noSelect L.toArray = true → ∀ listed, plOK L.toArray plan listed = true → wpAnyH P .any L.toArray Q S plan.len listed a w)

theorem vd_next {plan : Pl} (hS : S w) (h : S w → vD P n L Q S plan kn w) : vN n (ND P L Q S plan) kn w := fun a ha => ⟨hS, fun hQ hsel listed hl => h hS a listed hQ hsel ha hl⟩

theorem vd_end (h : vcQ n Q .normal kn w) : vD P n L Q S .done kn w := fun a listed hQ hsel ha hl => by
  simp only [plOK, List.isEmpty_iff] at hl
  exact ⟨hl, h a ha⟩

theorem vd_take {i : Nat} {o : Oper} {v : Value} {r : Pl} (hi : nth L i = some o) (hw : gd L kn o.guard = some true) (hd : okDst n o.dst = true)
    (hS : S w) (y : ∀ w', S w' → Y P n kn w' o v) (next : vD P n L Q S r (put o.dst v kn) w) : vD P n L Q S (.take i r) kn w := by
  intro a listed hQ hsel ha hl
  simp only [plOK, Bool.and_eq_true] at hl
  rw [nth_eq] at hi
  exact wpAnyH_take (oi := o) (v := v) (by simpa using hi) hsel hl.1.2 hl.1.1 (fun c a w h => hQ c _ _ w (put_defers _ _ _) h)
    (.inl ⟨ha.gd hw, fun w' hS' => y w' hS' a ha⟩) hS (next _ _ hQ hsel (ha.put hd v) hl.2)

theorem nd_op {i : Nat} {o : Oper} {r : Pl} {a : Act} {listed : Array Bool} (hi : nth L i = some o) (e : vS P n L Q o (ND P L Q S r) kn w) (ha : K n kn a) (hQ : okQ Q) (hsel : Region.noSelect L.toArray = true)
    (hl : plOK L.toArray r (listed.setIfInBounds i true) = true) : wpOp P L.toArray Q i (fun a' w' => S w' ∧ wpAnyH P .any L.toArray Q S r.len (listed.setIfInBounds i true) a' w') a w := by
  rw [nth_eq] at hi
  have he := e a ha
  unfold wpOp
  simp only [List.getElem?_toArray, hi]
  split
  · rename_i hw
    rw [if_pos hw] at he
    exact he.imp (Oper.wp_mono (fun a' w' h => ⟨h.1, h.2 hQ hsel _ hl⟩)) id
  · rename_i hw
    rw [if_neg hw] at he
    exact ⟨he.1, he.2 hQ hsel _ hl⟩

theorem vd_do {i : Nat} {o : Oper} {r : Pl} (hi : nth L i = some o) (e : vS P n L Q o (ND P L Q S r) kn w) : vD P n L Q S (.one i r) kn w := by
  intro a listed hQ hsel ha hl
  simp only [plOK, Bool.and_eq_true, beq_iff_eq] at hl
  refine wpAnyH_all hl.1 (by simp) (fun j hj => ?_)
  obtain rfl : j = i := by simpa using hj
  exact nd_op hi e ha hQ hsel hl.2

theorem vd_two {i j : Nat} {o p : Oper} {r s : Pl} (hi : nth L i = some o) (hj : nth L j = some p) (e : vS P n L Q o (ND P L Q S r) kn w) (f : vS P n L Q p (ND P L Q S s) kn w) : vD P n L Q S (.two i j r s) kn w := by
  intro a listed hQ hsel ha hl
  simp only [plOK, Bool.and_eq_true, beq_iff_eq] at hl
  obtain ⟨⟨⟨h1, h2⟩, h3⟩, h4⟩ := hl
  refine wpAnyH_all h1 (by simp) (fun k hk => ?_)
  have hk' : k = i ∨ k = j := by simpa using hk
  rcases hk' with rfl | rfl
  · exact nd_op hi e ha hQ hsel h3
  · rw [h2]; exact nd_op hj f ha hQ hsel h4

theorem vd_draw {id : Nat} (hm : P.follows .mixedOrders = true) (plan : Pl) (S : World → Prop) (hS0 : S w) (hsel : Region.noSelect L.toArray = true) (hQ : okQ Q) (hlen : plan.len = L.length) (hplan : plOK L.toArray plan (Array.replicate L.length false) = true)
    (h : ∀ w', Chg [] w w' → vD P n L Q S plan kn w') : vcC P n (.region id L.toArray true) Q kn w := by
  intro a ha
  refine wp_region_held (S := S) hm ?_
  have := h w.drew (Chg.drew w) a (Array.replicate L.length false) hQ hsel ha hplan
  rw [hlen] at this
  rw [List.size_toArray]
  exact this
end
end Sx


namespace Go.Proofs.YtggnfanphcaamaaGreatDoor
open Go.RowKit Sx LexS ParS
set_option linter.unusedVariables false
set_option linter.unusedSimpArgs false
abbrev pg00 : List Value := [.slice none 0 0, .slice none 0 0, .slice none 0 0]

set_option maxHeartbeats 1000000 in
theorem parse_catch (b2 b3 b4 p ru : Nat) (e : Int) (w : World) (h2 : w.heap[b2]? = some (.cells pg00.toArray 25 (0, 0))) (h3 : w.heap[b3]? = some (.cells [.int .i64 e].toArray 26 (0, 0))) (h4 : w.heap[b4]? = some (.cells [.int .i64 0, .int .i64 0].toArray 28 (0, 0)))
    (n1 : b2 ≠ b3) (n2 : b2 ≠ b4) (n3 : b3 ≠ b4) : DefCatch Tryz.prog 12 [.pointer (some ⟨b2, 0, none⟩), .pointer (some ⟨b3, 0, none⟩), .pointer (some ⟨b4, 0, none⟩)].toArray (.iface 40 (.agg #[.int .i64 (p : Int), .int .i64 (ru : Int)])) w
  (fun w' => w'.heap[b2]? = some (.cells pg00.toArray 25 (0, 0)) ∧ w'.heap[b3]? = some (.cells [.int .i64 30].toArray 26 (0, 0)) ∧ w'.heap[b4]? = some (.cells [.int .i64 (p : Int), .int .i64 (ru : Int)].toArray 28 (0, 0)) ∧ Chg [b2, b3, b4] w w') := by
 refine callsD_of_wpS Tryz.func12 rfl fun c₀ cs hu => ?_
 have st := St.of3 [b2, b3, b4] h2 h3 h4 n1 n2 n3
 apply wpS_seq
 apply wpS_region
 simp [wpOpsS, go_sem, recoverD, hu, Tryz.ntmps12, Exit.thenS]
 apply wpS_seq
 apply wpS_region
 simp [wpOpsS, go_sem, Exit.thenS]
 refine wpS_cond (t := true) (by simp [Act.eval, Array.replicate]) ?_
 simp only [if_true]
 refine wpS_of_wp ?_
 refine wp_of_vc (n := (11, [])) (kn := [(0, .pointer (some ⟨b2, 0, none⟩)), (1, .pointer (some ⟨b3, 0, none⟩)), (2, .pointer (some ⟨b4, 0, none⟩)), (3, .iface 40 (.agg #[.int .i64 (p : Int), .int .i64 (ru : Int)]))]) (K.of (by first | rfl | simp [Array.replicate]) ?_) ?_
 ·
  intro i v hv
  simp only [find] at hv
  repeat' split at hv
  all_goals first | (rename_i hh; have hh' := Nat.eq_of_beq_eq_true hh; subst hh'; cases hv; first | rfl | simp [Array.replicate]) | simp at hv
 refine vd_draw Tryz.mixed (.take 0 (.take 1 (.two 2 4 (.take 3 (.one 4 (.one 5 (.one 6 .done)))) (.two 2 5 (.take 3 (.one 5 (.one 6 .done))) (.one 2 (.take 3 (.one 6 .done))))))) (fun w => St _ _ [] w) (by exact st.drop (by repeat (first | exact sl0 | apply sl1 | apply sl2))) (by kernel_rfl) (by repeat (first | exact okQ_noPan | exact okQ_body | exact okQ_bodyS | refine okQ_then ?_ | refine okQ_block ?_)) rfl (by kernel_rfl) ?_
 intro w cd; replace st := st.call0 cd; clear cd
 have hS : St _ _ [] w := (by exact st.drop (by repeat (first | exact sl0 | apply sl1 | apply sl2)))
 refine vd_take rfl rfl rfl hS (fun w st => y_bld (.agg #[_, _, _]) [] rfl (fun w => by simp [Instr.build, go_sem] <;> repeat' constructor)) ?_
 refine vd_take rfl rfl rfl hS (fun w st => y_mv rfl) ?_
 refine vd_two rfl rfl ?_ ?_
 ·
  refine (e_run rfl rfl (y_ta rfl Tryz.underlying40) ?_)
  refine vd_next (by exact st.drop (by repeat (first | exact sl0 | apply sl1 | apply sl2))) ?_; intro hS
  refine vd_take rfl rfl rfl hS (fun w st => y_fldA (vs := [_, _]) rfl Tryz.underlying40 rfl rfl Tryz.isAgg28 Tryz.sizeOf28 rfl) ?_
  refine vd_do rfl (e_sts (vs := [_, _, _]) st 0 rfl rfl rfl rfl rfl Tryz.sizeOf25 rfl rfl (by first | (right; assumption) | (left; simp)) ?_)
  intro w st; dsimp only [setNth, wr] at st
  refine vd_next (by exact st.drop (by repeat (first | exact sl0 | apply sl1 | apply sl2))) ?_; intro hS
  refine vd_do rfl (e_st st 1 rfl rfl rfl rfl Tryz.sizeOf26 rfl rfl (by first | (right; assumption) | (left; simp)) ?_)
  intro w st; dsimp only [setNth, wr] at st
  refine vd_next (by exact st.drop (by repeat (first | exact sl0 | apply sl1 | apply sl2))) ?_; intro hS
  refine vd_do rfl (e_sts (vs := [_, _]) st 2 rfl rfl rfl rfl rfl Tryz.sizeOf28 rfl rfl (by first | (right; assumption) | (left; simp)) ?_)
  intro w st; dsimp only [setNth, wr] at st
  refine vd_next (by exact st.drop (by repeat (first | exact sl0 | apply sl1 | apply sl2))) ?_; intro hS
  refine vd_end ?_
  intro a ha
  exact ⟨ha.defers, _, rfl, .tuple #[], by simp [results, Tryz.results12], ⟨_, rfl⟩, rfl, by first | exact ⟨st.res (i := 0) rfl, st.res (i := 1) rfl, st.res (i := 2) rfl, st.chg⟩⟩
 ·
  refine (e_sts (vs := [_, _, _]) st 0 rfl rfl rfl rfl rfl Tryz.sizeOf25 rfl rfl (by first | (right; assumption) | (left; simp)) ?_)
  intro w st; dsimp only [setNth, wr] at st
  refine vd_next (by exact st.drop (by repeat (first | exact sl0 | apply sl1 | apply sl2))) ?_; intro hS
  refine vd_two rfl rfl ?_ ?_
  ·
   refine (e_run rfl rfl (y_ta rfl Tryz.underlying40) ?_)
   refine vd_next (by exact st.drop (by repeat (first | exact sl0 | apply sl1 | apply sl2))) ?_; intro hS
   refine vd_take rfl rfl rfl hS (fun w st => y_fldA (vs := [_, _]) rfl Tryz.underlying40 rfl rfl Tryz.isAgg28 Tryz.sizeOf28 rfl) ?_
   refine vd_do rfl (e_st st 1 rfl rfl rfl rfl Tryz.sizeOf26 rfl rfl (by first | (right; assumption) | (left; simp)) ?_)
   intro w st; dsimp only [setNth, wr] at st
   refine vd_next (by exact st.drop (by repeat (first | exact sl0 | apply sl1 | apply sl2))) ?_; intro hS
   refine vd_do rfl (e_sts (vs := [_, _]) st 2 rfl rfl rfl rfl rfl Tryz.sizeOf28 rfl rfl (by first | (right; assumption) | (left; simp)) ?_)
   intro w st; dsimp only [setNth, wr] at st
   refine vd_next (by exact st.drop (by repeat (first | exact sl0 | apply sl1 | apply sl2))) ?_; intro hS
   refine vd_end ?_
   intro a ha
   exact ⟨ha.defers, _, rfl, .tuple #[], by simp [results, Tryz.results12], ⟨_, rfl⟩, rfl, by first | exact ⟨st.res (i := 0) rfl, st.res (i := 1) rfl, st.res (i := 2) rfl, st.chg⟩⟩
  ·
   refine (e_st st 1 rfl rfl rfl rfl Tryz.sizeOf26 rfl rfl (by first | (right; assumption) | (left; simp)) ?_)
   intro w st; dsimp only [setNth, wr] at st
   refine vd_next (by exact st.drop (by repeat (first | exact sl0 | apply sl1 | apply sl2))) ?_; intro hS
   refine vd_do rfl (e_run rfl rfl (y_ta rfl Tryz.underlying40) ?_)
   refine vd_next (by exact st.drop (by repeat (first | exact sl0 | apply sl1 | apply sl2))) ?_; intro hS
   refine vd_take rfl rfl rfl hS (fun w st => y_fldA (vs := [_, _]) rfl Tryz.underlying40 rfl rfl Tryz.isAgg28 Tryz.sizeOf28 rfl) ?_
   refine vd_do rfl (e_sts (vs := [_, _]) st 2 rfl rfl rfl rfl rfl Tryz.sizeOf28 rfl rfl (by first | (right; assumption) | (left; simp)) ?_)
   intro w st; dsimp only [setNth, wr] at st
   refine vd_next (by exact st.drop (by repeat (first | exact sl0 | apply sl1 | apply sl2))) ?_; intro hS
   refine vd_end ?_
   intro a ha
   exact ⟨ha.defers, _, rfl, .tuple #[], by simp [results, Tryz.results12], ⟨_, rfl⟩, rfl, by first | exact ⟨st.res (i := 0) rfl, st.res (i := 1) rfl, st.res (i := 2) rfl, st.chg⟩⟩

end Go.Proofs.YtggnfanphcaamaaGreatDoor


namespace Go.Proofs.YtggnfanphcaamaaGreatDoor
open Go.RowKit Sx LexS ParS
set_option linter.unusedVariables false
set_option linter.unusedSimpArgs false

theorem parse_idle (args : List Value) (h3 : args.length = 3) (w : World) : DefIdle Tryz.prog 12 args.toArray w (fun w' => w' = w) := by
 refine callsD_of_wpS Tryz.func12 rfl fun c₀ cs hu => ?_
 obtain ⟨x, y, z, rfl⟩ : ∃ x y z, args = [x, y, z] := by
  match args, h3 with
  | [x, y, z], _ => exact ⟨x, y, z, rfl⟩
 apply wpS_seq
 apply wpS_region
 simp [wpOpsS, go_sem, recoverD, hu, Tryz.ntmps12, Exit.thenS]
 apply wpS_seq
 apply wpS_region
 simp [wpOpsS, go_sem, Exit.thenS]
 refine wpS_cond (t := false) (by simp [Act.eval, Array.replicate]) ?_
 simp only [Bool.false_eq_true, if_false]
 refine wpS_of_wp (wp_skip ?_)
 cases c₀
 simp_all [bodyPostS, results, Tryz.results12]

theorem _root_.Sx.St.push2 {w w' w0 : World} {M : List Nat} {hs : List Res} (st : St w0 M hs w) (c : Chg [] w w') {r q : Res} (hr : r.holds w0.heap.size w') (hq : q.holds w0.heap.size w') (hat : ∀ k ∈ r.at?, w.heap.size ≤ k) (hat' : ∀ k ∈ q.at?, w.heap.size ≤ k) (hd : ∀ k ∈ r.at?, k ∉ q.at?) : St w0 M (r :: q :: hs) w' := by
 have st1 := st.pushR c hq hat'
 refine ⟨st1.chg, List.pairwise_cons.2 ⟨fun x hx k hk hk' => ?_, st1.nodup⟩, fun x hx => ?_⟩
 ·
  rcases List.mem_cons.1 hx with rfl | h
  ·
   exact hd k hk hk'
  ·
   exact absurd (st.lt h hk') (by have := hat k hk; omega)
 ·
  rcases List.mem_cons.1 hx with rfl | h
  ·
   exact hr
  ·
   exact st1.here x h
theorem _root_.Sx.St.pnew {s : List UInt8} {c : PCtx} {w w' w0 : World} {M : List Nat} {hs : List Res} (st : St w0 M hs w) (ch : Chg [] w w') (h : PNew s w.heap.size c w') :
    St w0 M (.blk c.pb (.cells (pcell c c.ts).toArray c.T (0, 0)) :: .own (.slice c.oa c.ts.length c.cap) 82 4 c.ts.length (toksL c.ts) :: hs) w' :=
 st.push2 ch h.at_ (ownsRow_base h.own st.chg.size) (by simpa [Res.at?] using h.le) (fun k hk => (World.ownsRow.lt h.own k (by simpa [Res.at?] using hk)).1)
  (fun k hk => by
    simp only [Res.at?, List.mem_singleton] at hk
    subst hk
    intro hk'
    simp only [Res.at?, obk_own] at hk'
    exact absurd (h.lt _ hk') (Nat.lt_irrefl _))

/-- what 'Parse' leaves behind -/
def ParsePost (s : List UInt8) (w : World) (v : Value) (w' : World) : Prop := Chg [] w w' ∧ ∃ vp, HP w (parseRes s).1 vp w' ∧ v = .tuple #[vp, .int .i64 ((parseRes s).2.1 : Int), .agg #[.int .i64 ((parseRes s).2.2.1 : Int), .int .i64 ((parseRes s).2.2.2 : Int)]]
theorem hp_none (w0 : World) (w' : World) : HP w0 pg0 (.agg pg00.toArray) w' :=
 ⟨none, none, none, 0, 0, 0, [], rfl, ⟨none, 0, none, 0, none, 0, [], [], [], rfl, ⟨World.ownsRow_nil _ _ _ _, rfl⟩, ⟨World.ownsRow_nil _ _ _ _, rfl⟩, ⟨[], [], World.ownsRow_nil _ _ _ _, rfl, rfl, rfl⟩, rfl⟩, Nw.nil⟩
theorem _root_.Sx.holds_pg {tE tS tD tT base : Nat} {w : World} {q : Pg} {l : List Value} {S : List Nat} (h : PgS tE tS tD tT w q l S) : (Res.tree S fun w => PgS tE tS tD tT w q l S).holds base w := holds_of h h.lt (fun a b h hk => h.kept hk)

/-- a refusal is caught -/
theorem parse_pan {s : List UInt8} {w0 w : World} {b2 b3 b4 : Nat} {f : Flt} {kn : Kn} (h2 : w.heap[b2]? = some (.cells pg00.toArray 25 (0, 0))) (h3 : w.heap[b3]? = some (.cells [.int .i64 0].toArray 26 (0, 0))) (h4 : w.heap[b4]? = some (.cells [.int .i64 0, .int .i64 0].toArray 28 (0, 0)))
    (n1 : b2 ≠ b3) (n2 : b2 ≠ b4) (n3 : b3 ≠ b4) (l2 : w0.heap.size ≤ b2) (l3 : w0.heap.size ≤ b3) (l4 : w0.heap.size ≤ b4) (ch : Chg [] w0 w) (hpr : parseRes s = (pg0, 30, f.1, f.2))
  (k2 : find kn 2 = some (.pointer (some ⟨b2, 0, none⟩))) (k3 : find kn 3 = some (.pointer (some ⟨b3, 0, none⟩))) (k4 : find kn 4 = some (.pointer (some ⟨b4, 0, none⟩))) :
  PanK (21, [⟨.fn (.func 12) (List.toArray [.pointer (some ⟨b2, 0, none⟩), .pointer (some ⟨b3, 0, none⟩), .pointer (some ⟨b4, 0, none⟩)]), #[]⟩]) kn (bodyPostD Tryz.prog Tryz.f5 fun e w' => ∃ v, e = .returned v ∧ ParsePost s w0 v w') (.iface 40 (.agg #[.int .i64 (f.1 : Int), .int .i64 (f.2 : Int)])) w := by
 refine pan_leave Tryz.call12 (parse_catch b2 b3 b4 f.1 f.2 _ w h2 h3 h4 n1 n2 n3) (fun w2 hc => ?_)
 obtain ⟨g2, g3, g4, c2⟩ := hc
 have st2 := St.of3 [] g2 g3 g4 n1 n2 n3
 refine ⟨_, results3 st2 Tryz.results5 (.cell 0 k2 rfl Tryz.isAgg25 Tryz.sizeOf25) (.cell1 1 k3 rfl Tryz.isAgg26 rfl) (.cell 2 k4 rfl Tryz.isAgg28 Tryz.sizeOf28), _, rfl, ch.trans' c2 (by simp [l2, l3, l4]), ?_⟩
 rw [hpr]
 exact ⟨_, hp_none _ _, rfl⟩

set_option maxHeartbeats 1000000 in
theorem parse_any (s : List UInt8) (w : World) (hsg : SigAt 1 w) : Ret Tryz.prog 5 [str s] w (ParsePost s w) := by
 refine retd_of [_] Tryz.func5 rfl Tryz.ntmps5 rfl ?_
 have st := St.init w []
 obtain ⟨w0, rfl⟩ : ∃ w0, w0 = w := ⟨_, rfl⟩
 have h0 : 1 < w0.heap.size := World.block_lt_of_cell? w0 _ (hsg 0 (by omega)).1
 refine vc_seq (vc_region ?_)
 refine vc_e (e_al (l := [_, _, _]) st rfl rfl Tryz.zeroValue25 rfl ?_)
 intro b2 w hb2 st
 refine vc_e (e_al (l := [_]) st rfl rfl Tryz.zeroValue26 rfl ?_)
 intro b3 w hb3 st
 refine vc_e (e_al (l := [_, _]) st rfl rfl Tryz.zeroValue28 rfl ?_)
 intro b4 w hb4 st
 refine vc_end (vq_then (vc_keep [(0, _), (2, _), (3, _), (4, _)] ⟨rfl, rfl, rfl, rfl, trivial⟩ (vc_seq (vc_region ?_))))
 refine vc_y rfl rfl (y_mv rfl) ?_
 have n43 := st.bne 0 1 (by decide) rfl rfl
 have n42 := st.bne 0 2 (by decide) rfl rfl
 have n32 := st.bne 1 2 (by decide) rfl rfl
 have n34 := Ne.symm n43
 have n24 := Ne.symm n42
 have n23 := Ne.symm n32
 have hw1 := st.chg.size
 refine vc_e (e_call [_] rfl rfl Tryz.call11 rfl (begun_any s _ (hsg.kept st.chg (by simp))) ?_)
 rintro _ w ⟨cw, hb⟩
 rcases hb with ⟨hl, rfl⟩ | ⟨hl, ru, pl, hfr, rfl⟩ | ⟨hl, hfr, c, hn, rfl⟩
 ·
  replace st := st.call0 cw
  have hpr : parseRes s = (pg0, 4, 0, 0) := by simp [parseRes, hl]
  refine vc_y rfl rfl (y_mv rfl) ?_
  iterate 3 refine vc_y rfl rfl (y_ext rfl rfl) ?_
  refine vc_y rfl rfl (y_as rfl) ?_
  refine vc_e (e_st st 1 rfl rfl rfl rfl Tryz.sizeOf26 rfl rfl (by first | (right; assumption) | (left; simp)) ?_)
  intro w st; dsimp only [setNth, wr] at st
  refine vc_e (e_sts (vs := [_, _]) st 0 rfl rfl rfl rfl rfl Tryz.sizeOf28 rfl rfl (by first | (right; assumption) | (left; simp)) ?_)
  intro w st; dsimp only [setNth, wr] at st
  refine vc_end (vq_then (vc_keep [(2, _), (3, _), (4, _), (5, _)] ⟨rfl, rfl, rfl, rfl, trivial⟩ (vc_seq (vc_seq (vc_region ?_)))))
  refine vc_y rfl rfl ((by exact y_ld st 1 rfl Tryz.isAgg26 rfl rfl)) ?_
  refine vc_y rfl rfl (y_nei rfl rfl) ?_
  refine vc_end (vq_then (vc_keep [(2, _), (3, _), (4, _), (5, _), (13, _)] ⟨rfl, rfl, rfl, rfl, rfl, trivial⟩ ?_))
  refine vc_ifs rfl ?_ ?_
  ·
   intro hc13
   try simp only [dn] at hc13
   refine vc_seq ?_
   refine vc_noPan ?_
   refine vc_draw Tryz.mixed [(0, true), (1, true), (2, true), (3, false), (4, false), (5, false)] (fun w => St _ _ _ w) st (by kernel_rfl) (by repeat (first | exact okQ_noPan | exact okQ_body | exact okQ_bodyS | refine okQ_then ?_ | refine okQ_block ?_)) rfl (by kernel_rfl) ?_
   intro w cd; replace st := st.call0 cd; clear cd
   have hS := st
   refine vp_take rfl rfl rfl hS (fun w st => (by exact y_lda (vs := [_, _, _]) st 2 rfl Tryz.isAgg25 Tryz.sizeOf25 rfl rfl)) ?_
   refine vp_take rfl rfl rfl hS (fun w st => (by exact y_ld st 1 rfl Tryz.isAgg26 rfl rfl)) ?_
   refine vp_take rfl rfl rfl hS (fun w st => (by exact y_lda (vs := [_, _]) st 0 rfl Tryz.isAgg28 Tryz.sizeOf28 rfl rfl)) ?_
   refine vp_do rfl (e_sts (vs := [_, _, _]) st 2 rfl rfl rfl rfl rfl Tryz.sizeOf25 rfl rfl (by first | (right; assumption) | (left; simp)) ?_)
   intro w st; dsimp only [setNth, wr] at st
   refine vp_next (by exact st) ?_; intro hS
   refine vp_do rfl (e_st st 1 rfl rfl rfl rfl Tryz.sizeOf26 rfl rfl (by first | (right; assumption) | (left; simp)) ?_)
   intro w st; dsimp only [setNth, wr] at st
   refine vp_next (by exact st) ?_; intro hS
   refine vp_do rfl (e_sts (vs := [_, _]) st 0 rfl rfl rfl rfl rfl Tryz.sizeOf28 rfl rfl (by first | (right; assumption) | (left; simp)) ?_)
   intro w st; dsimp only [setNth, wr] at st
   refine vp_next (by exact st) ?_; intro hS
   refine vp_end ?_
   refine vq_noPan ?_
   refine vq_then (vc_keep [(2, _), (3, _), (4, _)] ⟨rfl, rfl, rfl, trivial⟩ (vc_ret (vq_then_ret ?_)))
   refine vqd_post (.inl rfl) (results3 st Tryz.results5 (.cell 2 rfl rfl Tryz.isAgg25 Tryz.sizeOf25) (.cell1 1 rfl rfl Tryz.isAgg26 rfl) (.cell 0 rfl rfl Tryz.isAgg28 Tryz.sizeOf28)) ?_
   refine ⟨_, rfl, st.chg, ?_⟩
   rw [hpr]
   exact ⟨_, hp_none _ _, rfl⟩
  ·
   intro hc13
   exact absurd hc13 (by decide)
 ·
  replace st := st.call0 cw
  have hpr : parseRes s = (pg0, 30, pl, 1) := by simp [parseRes, Nat.not_lt.2 hl, hfr]
  refine vc_y rfl rfl (y_mv rfl) ?_
  iterate 3 refine vc_y rfl rfl (y_ext rfl rfl) ?_
  refine vc_y rfl rfl (y_as rfl) ?_
  refine vc_e (e_st st 1 rfl rfl rfl rfl Tryz.sizeOf26 rfl rfl (by first | (right; assumption) | (left; simp)) ?_)
  intro w st; dsimp only [setNth, wr] at st
  refine vc_e (e_sts (vs := [_, _]) st 0 rfl rfl rfl rfl rfl Tryz.sizeOf28 rfl rfl (by first | (right; assumption) | (left; simp)) ?_)
  intro w st; dsimp only [setNth, wr] at st
  refine vc_end (vq_then (vc_keep [(2, _), (3, _), (4, _), (5, _)] ⟨rfl, rfl, rfl, rfl, trivial⟩ (vc_seq (vc_seq (vc_region ?_)))))
  refine vc_y rfl rfl ((by exact y_ld st 1 rfl Tryz.isAgg26 rfl rfl)) ?_
  refine vc_y rfl rfl (y_nei rfl rfl) ?_
  refine vc_end (vq_then (vc_keep [(2, _), (3, _), (4, _), (5, _), (13, _)] ⟨rfl, rfl, rfl, rfl, rfl, trivial⟩ ?_))
  refine vc_ifs rfl ?_ ?_
  ·
   intro hc13
   try simp only [dn] at hc13
   refine vc_seq ?_
   refine vc_noPan ?_
   refine vc_draw Tryz.mixed [(0, true), (1, true), (2, true), (3, false), (4, false), (5, false)] (fun w => St _ _ _ w) st (by kernel_rfl) (by repeat (first | exact okQ_noPan | exact okQ_body | exact okQ_bodyS | refine okQ_then ?_ | refine okQ_block ?_)) rfl (by kernel_rfl) ?_
   intro w cd; replace st := st.call0 cd; clear cd
   have hS := st
   refine vp_take rfl rfl rfl hS (fun w st => (by exact y_lda (vs := [_, _, _]) st 2 rfl Tryz.isAgg25 Tryz.sizeOf25 rfl rfl)) ?_
   refine vp_take rfl rfl rfl hS (fun w st => (by exact y_ld st 1 rfl Tryz.isAgg26 rfl rfl)) ?_
   refine vp_take rfl rfl rfl hS (fun w st => (by exact y_lda (vs := [_, _]) st 0 rfl Tryz.isAgg28 Tryz.sizeOf28 rfl rfl)) ?_
   refine vp_do rfl (e_sts (vs := [_, _, _]) st 2 rfl rfl rfl rfl rfl Tryz.sizeOf25 rfl rfl (by first | (right; assumption) | (left; simp)) ?_)
   intro w st; dsimp only [setNth, wr] at st
   refine vp_next (by exact st) ?_; intro hS
   refine vp_do rfl (e_st st 1 rfl rfl rfl rfl Tryz.sizeOf26 rfl rfl (by first | (right; assumption) | (left; simp)) ?_)
   intro w st; dsimp only [setNth, wr] at st
   refine vp_next (by exact st) ?_; intro hS
   refine vp_do rfl (e_sts (vs := [_, _]) st 0 rfl rfl rfl rfl rfl Tryz.sizeOf28 rfl rfl (by first | (right; assumption) | (left; simp)) ?_)
   intro w st; dsimp only [setNth, wr] at st
   refine vp_next (by exact st) ?_; intro hS
   refine vp_end ?_
   refine vq_noPan ?_
   refine vq_then (vc_keep [(2, _), (3, _), (4, _)] ⟨rfl, rfl, rfl, trivial⟩ (vc_ret (vq_then_ret ?_)))
   refine vqd_post (.inl rfl) (results3 st Tryz.results5 (.cell 2 rfl rfl Tryz.isAgg25 Tryz.sizeOf25) (.cell1 1 rfl rfl Tryz.isAgg26 rfl) (.cell 0 rfl rfl Tryz.isAgg28 Tryz.sizeOf28)) ?_
   refine ⟨_, rfl, st.chg, ?_⟩
   rw [hpr]
   exact ⟨_, hp_none _ _, rfl⟩
  ·
   intro hc13
   exact absurd hc13 (by decide)
 ·
  replace st := st.pnew cw hn
  have hpr : parseRes s = match progP c.e (c.ts.length + 1) c.ts with | .error f => (pg0, 30, f.1, f.2) | .ok p => (p, 0, 0, 0) := by
   unfold parseRes; rw [if_neg (by omega), hfr, hn.e, hn.ts]
   try rfl
  refine vc_y rfl rfl (y_mv rfl) ?_
  iterate 3 refine vc_y rfl rfl (y_ext rfl rfl) ?_
  refine vc_y rfl rfl (y_as rfl) ?_
  refine vc_e (e_st st 3 rfl rfl rfl rfl Tryz.sizeOf26 rfl rfl (by first | (right; assumption) | (left; simp)) ?_)
  intro w st; dsimp only [setNth, wr] at st
  refine vc_e (e_sts (vs := [_, _]) st 2 rfl rfl rfl rfl rfl Tryz.sizeOf28 rfl rfl (by first | (right; assumption) | (left; simp)) ?_)
  intro w st; dsimp only [setNth, wr] at st
  refine vc_end (vq_then (vc_keep [(2, _), (3, _), (4, _), (5, _)] ⟨rfl, rfl, rfl, rfl, trivial⟩ (vc_seq (vc_seq (vc_region ?_)))))
  refine vc_y rfl rfl ((by exact y_ld st 3 rfl Tryz.isAgg26 rfl rfl)) ?_
  refine vc_y rfl rfl (y_nei rfl rfl) ?_
  refine vc_end (vq_then (vc_keep [(2, _), (3, _), (4, _), (5, _), (13, _)] ⟨rfl, rfl, rfl, rfl, rfl, trivial⟩ ?_))
  refine vc_ifs rfl ?_ ?_
  ·
   intro hc13
   exact absurd hc13 (by decide)
  ·
   intro hc13
   try simp only [dn] at hc13
   refine vc_code_skip (vq_then (vc_keep [(2, _), (3, _), (4, _), (5, _)] ⟨rfl, rfl, rfl, rfl, trivial⟩ (vc_seq (vc_region ?_))))
   refine vc_y rfl rfl (y_mf [] [_, _, _] rfl rfl) ?_
   refine vc_e (e_deferV rfl rfl rfl ?_)
   refine vc_end (vq_then (vc_keep [(2, _), (3, _), (4, _), (5, _)] ⟨rfl, rfl, rfl, rfl, trivial⟩ (vc_seq (vc_region ?_))))
   refine vc_y rfl rfl (y_mv rfl) ?_
   refine vc_e (e_callk [_] rfl rfl Tryz.call13 rfl (pprog_any c hn.R hn.g c.ts (List.suffix_refl _) _ (hn.ok (st.res (i := 1) rfl) (hsg.kept st.chg (by simp)) (st.res (i := 0) rfl) (Nat.lt_of_lt_of_le h0 hw1)) (st.res (i := 0) rfl) (c.ts.length + 1) (by omega)) (by
       rintro _ w' ⟨f, hf, rfl, ch⟩
       obtain ⟨o', ho'⟩ : ∃ o', w'.heap[c.pb]? = some o' := ⟨_, Array.getElem?_eq_getElem (Nat.lt_of_lt_of_le (Array.getElem?_eq_some_iff.1 (st.res (i := 0) rfl)).1 ch.size)⟩
       have st' := St.prs (b := c.pb) st 0 rfl ch (.inr (Nat.le_trans hw1 hn.le)) ho'
       dsimp only [setNth] at st'
       rw [show refV c f = .iface 40 (.agg #[.int .i64 (f.1 : Int), .int .i64 (f.2 : Int)]) by rw [refV, hn.R]]
       exact parse_pan (st'.res (i := 4) rfl) (st'.res (i := 3) rfl) (st'.res (i := 2) rfl) n23 n24 n34 hb2 hb3 hb4 st'.chg (by rw [hpr, hf]) rfl rfl rfl) ?_)
   rintro _ w ⟨q, hq, cw, os, ol, ot, cs, cl, ct, Sq, rfl, hT, hN⟩
   have hw2 := st.chg.size
   obtain ⟨o', ho'⟩ : ∃ o', w.heap[c.pb]? = some o' := ⟨_, Array.getElem?_eq_getElem (Nat.lt_of_lt_of_le (Array.getElem?_eq_some_iff.1 (st.res (i := 0) rfl)).1 cw.size)⟩
   replace st := St.prsT (b := c.pb) st 0 rfl cw (.inr (Nat.le_trans hw1 hn.le)) ho' (holds_pg hT) hN.2
   dsimp only [setNth] at st
   refine vc_y rfl rfl (y_bld (.agg #[_, _]) [] rfl (fun w => by simp [Instr.build, go_sem] <;> repeat' constructor)) ?_
   refine vc_e (e_sts (vs := [_, _, _]) st 5 rfl rfl rfl rfl rfl Tryz.sizeOf25 rfl rfl (by first | (right; assumption) | (left; simp)) ?_)
   intro w st; dsimp only [setNth, wr] at st
   refine vc_e (e_st st 4 rfl rfl rfl rfl Tryz.sizeOf26 rfl rfl (by first | (right; assumption) | (left; simp)) ?_)
   intro w st; dsimp only [setNth, wr] at st
   refine vc_e (e_sts (vs := [_, _]) st 3 rfl rfl rfl rfl rfl Tryz.sizeOf28 rfl rfl (by first | (right; assumption) | (left; simp)) ?_)
   intro w st; dsimp only [setNth, wr] at st
   refine vc_end (vq_then (vc_keep [(2, _), (3, _), (4, _)] ⟨rfl, rfl, rfl, trivial⟩ (vc_ret ?_)))
   refine vqd_ret (.inl rfl) Tryz.call12 (parse_idle [.pointer (some ⟨b2, 0, none⟩), .pointer (some ⟨b3, 0, none⟩), .pointer (some ⟨b4, 0, none⟩)] rfl _) (fun w2 e2 => ?_)
   subst e2
   refine ⟨_, results3 st Tryz.results5 (.cell 5 rfl rfl Tryz.isAgg25 Tryz.sizeOf25) (.cell1 4 rfl rfl Tryz.isAgg26 rfl) (.cell 3 rfl rfl Tryz.isAgg28 Tryz.sizeOf28), _, rfl, st.chg, ?_⟩
   rw [hpr, hq]
   dsimp only
   exact ⟨_, ⟨os, ol, ot, cs, cl, ct, Sq, rfl, (st.res (i := 0) rfl).1, hN.le hw2⟩, rfl⟩

end Go.Proofs.YtggnfanphcaamaaGreatDoor

