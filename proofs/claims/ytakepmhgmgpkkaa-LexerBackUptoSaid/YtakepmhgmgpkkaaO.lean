/- A part of the proof: contracts of functions and plain laws; each theorem says its own conditions. -/
import Derived.Test.YtakepmhgmgpkkaaN
namespace Go.Proofs.Ytakepmhgmgpkkaa
open Go.ChangeShapes Go.WideShapes Go.ChangeAt Go.RowKit
open Go.ChangeMaps (open_string shut_string)
open Sx LexS
set_option linter.unusedVariables false
set_option linter.unusedSimpArgs false
theorem scanA_inv {r : List UInt8} {i : Nat} {t : Tok} {T : List Tok} (h : scanA r i = (t :: T, none)) :
    skip r < r.length ∧ tokAt (r.drop (skip r)) (i + skip r) = .tok t ∧ scanA (r.drop (skip r + t.text.length)) (i + skip r + t.text.length) = (T, none) := by
  rcases Nat.lt_or_ge (skip r) r.length with hk | hk
  · cases hx : tokAt (r.drop (skip r)) (i + skip r) with
    | bad rule q => rw [scanA_bad hk hx] at h; simp at h
    | tok x =>
      rw [scanA_tok hk hx] at h
      simp only [Prod.mk.injEq, List.cons.injEq] at h
      obtain ⟨⟨rfl, h1⟩, h2⟩ := h
      exact ⟨hk, rfl, Prod.ext h1 h2⟩
  · rw [scanA_end hk] at h; simp at h
theorem scanA_nil_inv {r : List UInt8} {i : Nat} (h : scanA r i = ([], none)) : r.length ≤ skip r := by
  rcases Nat.lt_or_ge (skip r) r.length with hk | hk
  · cases hx : tokAt (r.drop (skip r)) (i + skip r) with
    | bad rule q => rw [scanA_bad hk hx] at h; simp at h
    | tok x => rw [scanA_tok hk hx] at h; simp at h
  · exact hk
theorem toLf_take (r : List UInt8) (m : Nat) (h : toLf r ≤ m) : toLf (r.take m) = toLf r := by
  induction r generalizing m with
  | nil => simp
  | cons c r ih =>
    simp only [toLf] at h ⊢
    split
    · rename_i hc
      cases m with
      | zero => rfl
      | succ m => rw [List.take_succ_cons]; simp only [toLf, hc, if_true]
    · rename_i hc
      rw [if_neg hc] at h
      cases m with
      | zero => omega
      | succ m => rw [List.take_succ_cons]; simp only [toLf, hc, if_false]; rw [ih m (by omega)]
theorem skip_take (r : List UInt8) : skip (r.take (skip r)) = skip r := by
  have key : ∀ n (l : List UInt8), l.length = n → skip (l.take (skip l)) = skip l := by
    intro n
    induction n using Nat.strongRecOn with
    | _ n ih =>
      intro l hl
      match l with
      | [] => rfl
      | c :: r =>
        cases hb : isBlank c with
        | true =>
          rw [skip_blank hb, List.take_succ_cons, skip_blank hb, ih r.length (by simp at hl; omega) r rfl]
        | false =>
          cases hr : isRem (c :: r) with
          | true =>
            have hp := toLf_pos hr
            have hle := toLf_le (c :: r)
            have e := skip_rem hr
            have h1 := ih ((c :: r).drop (toLf (c :: r))).length (by simp only [List.length_drop, List.length_cons] at *; omega) _ rfl
            have h2 : toLf (c :: r) ≥ 2 := by
              match r, hr with
              | [], hr => simp [isRem] at hr
              | b :: r, hr =>
                simp [isRem] at hr
                obtain ⟨rfl, rfl⟩ := hr
                simp [toLf]
            have hr' : isRem ((c :: r).take (skip (c :: r))) = true := by
              rw [e]
              match r, hr, h2 with
              | [], hr, _ => simp [isRem] at hr
              | b :: r, hr, h2 =>
                obtain ⟨m, hm⟩ : ∃ m, toLf (c :: b :: r) + skip ((c :: b :: r).drop (toLf (c :: b :: r))) = m + 2 := ⟨_, (Nat.sub_add_cancel (by omega)).symm⟩
                rw [hm]
                exact hr
            rw [skip_rem hr', toLf_take _ _ (by rw [e]; omega)]
            rw [e, List.drop_take, Nat.add_sub_cancel_left, h1]
          | false => rw [skip_other hb hr]; rfl
  exact key _ r rfl
theorem scanRes_blank {s : List UInt8} (hs : s.length ≤ 65536) (h : s.length ≤ skip s) : scanRes s = ([], 0, 0, 0) := by
  unfold scanRes
  rw [if_neg (by omega), front_eq, scanA_end h]
theorem scanRes_ok {s : List UInt8} (h : (scanRes s).2.1 = 0) : s.length ≤ 65536 ∧ scanA s 0 = ((scanRes s).1, none) := by
  unfold scanRes at h ⊢
  split at h
  · simp at h
  · rename_i hl
    rw [if_neg hl]
    split at h
    · rename_i hn
      exact ⟨by omega, Prod.ext rfl hn⟩
    · simp at h
theorem scanRes_none {s : List UInt8} (h : (scanRes s).2.1 ≠ 0) : (scanRes s).1 = [] := by
  unfold scanRes at h ⊢
  split
  · rfl
  · rename_i hl
    rw [if_neg hl] at h
    split
    · rename_i hn; rw [hn] at h; simp at h
    · rfl
theorem toks_at {T T' : List Tok} {j : Nat} {x : Tok} (h : T.drop j = x :: T') : ∀ k v, (tokL x)[k]? = some v → (toksL T)[j * 4 + k]? = some v := by
  intro k v hk
  have hj : j < T.length := by
    have := congrArg List.length h
    simp at this; omega
  have hk4 : k < 4 := (List.getElem?_eq_some_iff.1 hk).1
  rw [toksL_tv, tvs_get _ j k (by simpa using hj) hk4, ← hk]
  have : (T.map tvOf).getD j tv0 = tvOf x := by
    rw [List.drop_eq_getElem_cons hj] at h
    simp only [List.cons.injEq] at h
    simp [List.getD, hj, h.1]
  rw [this]
  rfl

set_option maxHeartbeats 1000000 in
theorem lawLexerStands (l : List UInt8) (hl : l.length ≤ maxLen) (w : World) : Ret Try.prog 6 [str l] w fun v w' => v = .bool true ∧ Chg [] w w' := by
  refine ret_of [_] Try.func6 rfl Try.ntmps6 rfl ?_
  have st := St.init w []
  obtain ⟨T, hT⟩ : ∃ T, (scanRes l).1 = T := ⟨_, rfl⟩
  obtain ⟨e, a, r, he⟩ : ∃ e a r, (scanRes l).2 = (e, a, r) := ⟨_, _, _, rfl⟩
  have hlen := scanRes_len l
  rw [hT] at hlen
  refine vc_seq ?_
  refine vc_region ?_
  refine vc_y rfl rfl (y_as rfl) ?_
  refine vc_end ?_
  refine vq_then ?_
  refine vc_keep [(0, _)] ⟨rfl, trivial⟩ ?_
  refine vc_seq ?_
  refine vc_seq ?_
  refine vc_region ?_
  refine vc_e (e_call [] rfl rfl Try.call20 rfl (begins_any _) ?_)
  rintro _ w ⟨rfl, cb⟩
  replace st := st.call0 cb
  refine vc_y rfl rfl (y_not rfl) ?_
  refine vc_end ?_
  refine vq_then ?_
  refine vc_keep [(0, _), (15, _)] ⟨rfl, rfl, trivial⟩ ?_
  refine vc_ifs rfl ?_ ?_
  · intro hc15
    simp at hc15
  · intro hc15
    try simp only [decide_eq_true_eq, decide_eq_false_iff_not, Bool.not_eq_true', Bool.not_eq_false', Bool.not_eq_true, Bool.not_eq_false, Int.not_lt, Int.not_le, Nat.not_lt, Nat.not_le, Bool.not_true, Bool.not_false, Bool.true_eq_false, Bool.false_eq_true] at hc15
    refine vc_code_skip ?_
    refine vq_then ?_
    refine vc_keep [(0, _)] ⟨rfl, trivial⟩ ?_
    refine vc_seq ?_
    refine vc_region ?_
    refine vc_y rfl rfl (y_mv rfl) ?_
    refine vc_e (e_call [_] rfl rfl Try.call21 rfl (scan_eq l T hT e a r he _) ?_)
    rintro _ w ⟨cw, oa, ca, rfl, how⟩
    replace st := st.pushOwn cw how
    refine vc_y rfl rfl (y_mv rfl) ?_
    refine vc_y rfl rfl (y_ext rfl rfl) ?_
    refine vc_y rfl rfl (y_ext rfl rfl) ?_
    refine vc_y rfl rfl (y_ext rfl rfl) ?_
    refine vc_e (e_al (l := [_, _]) st rfl rfl Try.zeroValue27 rfl ?_)
    intro b5 w hb5 st
    refine vc_y rfl rfl (y_as rfl) ?_
    refine vc_y rfl rfl (y_as rfl) ?_
    first
    | refine vc_e (e_sts (vs := [_, _]) st 0 rfl rfl rfl rfl rfl Try.sizeOf27 rfl rfl (by first | (right; assumption) | (left; simp)) ?_)
    | refine vc_e (e_sts (vs := [_, _]) st 1 rfl rfl rfl rfl rfl Try.sizeOf27 rfl rfl (by first | (right; assumption) | (left; simp)) ?_)
    | refine vc_e (e_sts (vs := [_, _]) st 2 rfl rfl rfl rfl rfl Try.sizeOf27 rfl rfl (by first | (right; assumption) | (left; simp)) ?_)
    | refine vc_e (e_sts (vs := [_, _]) st 3 rfl rfl rfl rfl rfl Try.sizeOf27 rfl rfl (by first | (right; assumption) | (left; simp)) ?_)
    | refine vc_e (e_sts (vs := [_, _]) st 4 rfl rfl rfl rfl rfl Try.sizeOf27 rfl rfl (by first | (right; assumption) | (left; simp)) ?_)
    intro w st; dsimp only [setNth, wr] at st
    refine vc_end ?_
    refine vq_then ?_
    refine vc_keep [(0, _), (3, _), (4, _)] ⟨rfl, rfl, rfl, trivial⟩ ?_
    refine vc_seq ?_
    refine vc_seq ?_
    refine vc_region ?_
    refine vc_y rfl rfl (y_mv rfl) ?_
    refine vc_y rfl rfl (y_nei rfl rfl) ?_
    refine vc_end ?_
    refine vq_then ?_
    refine vc_keep [(0, _), (3, _), (23, _)] ⟨rfl, rfl, rfl, trivial⟩ ?_
    refine vc_ifs rfl ?_ ?_
    · intro hc23
      try simp only [decide_eq_true_eq, decide_eq_false_iff_not, Bool.not_eq_true', Bool.not_eq_false', Bool.not_eq_true, Bool.not_eq_false, Int.not_lt, Int.not_le, Nat.not_lt, Nat.not_le, Bool.not_true, Bool.not_false, Bool.true_eq_false, Bool.false_eq_true] at hc23
      have hT0 : T = [] := by rw [← hT]; exact scanRes_none (by rw [he]; dsimp only; omega)
      refine vc_seq ?_
      refine vc_region ?_
      refine vc_y rfl rfl (y_mv rfl) ?_
      refine vc_y rfl rfl (y_lensl rfl Try.underlying24) ?_
      refine vc_y rfl rfl (y_eqi rfl rfl) ?_
      refine vc_y rfl rfl (y_as rfl) ?_
      refine vc_end ?_
      refine vq_then ?_
      refine vc_keep [(2, _)] ⟨rfl, trivial⟩ ?_
      refine vc_ret ?_
      refine vq_then_ret ?_
      refine vq_ret1 st (.inl rfl) Try.results6 (.tmp rfl) ?_
      refine ⟨_, rfl, ?_⟩
      refine ⟨?_, st.chg⟩
      first
      | (simp; done)
      | (rw [hT0]; simp)
    · intro hc23
      try simp only [decide_eq_true_eq, decide_eq_false_iff_not, Bool.not_eq_true', Bool.not_eq_false', Bool.not_eq_true, Bool.not_eq_false, Int.not_lt, Int.not_le, Nat.not_lt, Nat.not_le, Bool.not_true, Bool.not_false, Bool.true_eq_false, Bool.false_eq_true] at hc23
      have hok := scanRes_ok (s := l) (by rw [he]; dsimp only; omega)
      rw [hT] at hok
      obtain ⟨hl16, hsc0⟩ := hok
      refine vc_code_skip ?_
      refine vq_then ?_
      refine vc_keep [(0, _), (3, _)] ⟨rfl, rfl, trivial⟩ ?_
      refine vc_seq ?_
      refine vc_region ?_
      refine vc_y rfl rfl (y_as rfl) ?_
      refine vc_end ?_
      refine vq_then ?_
      refine vc_keep [(0, _), (3, _), (6, _)] ⟨rfl, rfl, rfl, trivial⟩ ?_
      refine vc_seq ?_
      refine vc_seq ?_
      refine vc_region ?_
      refine vc_y rfl rfl (y_as rfl) ?_
      refine vc_end ?_
      refine vq_then ?_
      refine vc_keep [(0, _), (3, _), (6, _), (7, _)] ⟨rfl, rfl, rfl, rfl, trivial⟩ ?_
      refine vc_block ?_
      refine vc_loop (w0 := _) (M := _) (fun (x : Nat × Nat) => [(0, str l), (3, .slice oa T.length ca), (6, .int .i64 (x.2 : Int)), (7, .int .i64 (x.1 : Int))]) (fun _ => [.own (.slice oa T.length ca) 33 4 T.length (toksL T)]) (fun x w' => x.1 ≤ T.length ∧ x.2 ≤ l.length ∧ scanA (l.drop x.2) x.2 = (T.drop x.1, none)) (fun x => T.length - x.1) (0, 0) ⟨rfl, rfl, rfl, rfl, trivial⟩ (st.drop (by repeat (first | exact List.Sublist.slnil | apply List.Sublist.cons_cons | apply List.Sublist.cons))) ⟨by simp, by simp, by simpa using hsc0⟩ ?_
      rintro ⟨j, i⟩ w ⟨hj, hi, hsc⟩ st
      dsimp only at *
      refine vc_seq ?_
      refine vc_seq ?_
      refine vc_region ?_
      refine vc_y rfl rfl (y_mv rfl) ?_
      refine vc_y rfl rfl (y_mv rfl) ?_
      refine vc_y rfl rfl (y_lensl rfl Try.underlying24) ?_
      refine vc_y rfl rfl (y_lss rfl rfl) ?_
      refine vc_end ?_
      refine vq_then ?_
      refine vc_keep [(0, _), (3, _), (6, _), (7, _), (30, _)] ⟨rfl, rfl, rfl, rfl, rfl, trivial⟩ ?_
      refine vc_ifs rfl ?_ ?_
      · intro hc30
        try simp only [decide_eq_true_eq, decide_eq_false_iff_not, Bool.not_eq_true', Bool.not_eq_false', Bool.not_eq_true, Bool.not_eq_false, Int.not_lt, Int.not_le, Nat.not_lt, Nat.not_le, Bool.not_true, Bool.not_false, Bool.true_eq_false, Bool.false_eq_true] at hc30
        obtain ⟨x, hx⟩ : ∃ x, T.drop j = x :: T.drop (j + 1) := ⟨T[j]'(by omega), List.drop_eq_getElem_cons (by omega)⟩
        rw [hx] at hsc
        obtain ⟨hk, htok, hrest⟩ := scanA_inv hsc
        have htl := tok_len htok
        obtain ⟨htl1, htl2, hat⟩ := htl
        simp only [List.length_drop] at hk
        rw [List.drop_drop, ← hat] at htl2
        have hle : x.at_ + x.text.length ≤ l.length := by
          have h := congrArg List.length htl2
          simp at h; omega
        have hblank : scanRes ((l.drop i).take (x.at_ - i)) = ([], 0, 0, 0) := by
          refine scanRes_blank (by simp; omega) ?_
          rw [show x.at_ - i = skip (l.drop i) by omega, skip_take]; simp; omega
        rw [List.drop_drop, ← Nat.add_assoc, ← hat] at hrest
        have hcell := toks_at hx
        obtain ⟨g, cap', e', _⟩ := own_form (st.res (i := 0) rfl) (by omega)
        simp only [Value.slice.injEq] at e'
        obtain ⟨rfl, -, rfl⟩ := e'
        refine vc_code_skip ?_
        refine vq_then ?_
        refine vc_keep [(0, _), (3, _), (6, _), (7, _)] ⟨rfl, rfl, rfl, rfl, trivial⟩ ?_
        refine vc_seq ?_
        refine vc_block ?_
        refine vc_seq ?_
        refine vc_region ?_
        refine vc_y rfl rfl (y_mv rfl) ?_
        refine vc_y rfl rfl (y_mv rfl) ?_
        refine vc_y rfl rfl ((by first | exact y_ia0 (k := j) rfl rfl Try.underlying24 Try.sizeOf33 rfl (by omega) | exact y_ia (k := j) rfl rfl Try.underlying24 Try.sizeOf33 rfl (by omega))) ?_
        refine vc_y rfl rfl ((by first | exact y_ldoa (vs := tokL x) st 0 rfl Try.isAgg33 Try.sizeOf33 rfl rfl hcell | exact y_lda (vs := [_, _, _, _]) st 0 rfl Try.isAgg33 Try.sizeOf33 rfl rfl | exact y_lda (vs := [_, _, _, _]) st 1 rfl Try.isAgg33 Try.sizeOf33 rfl rfl | exact y_lda (vs := [_, _, _, _]) st 2 rfl Try.isAgg33 Try.sizeOf33 rfl rfl | exact y_lda (vs := [_, _, _, _]) st 3 rfl Try.isAgg33 Try.sizeOf33 rfl rfl | exact y_lda (vs := [_, _, _, _]) st 4 rfl Try.isAgg33 Try.sizeOf33 rfl rfl)) ?_
        refine vc_e (e_al (l := [_, _, _, _]) st rfl rfl Try.zeroValue33 rfl ?_)
        intro b8 w hb8 st
        first
        | refine vc_e (e_sts (vs := [_, _, _, _]) st 0 rfl rfl rfl rfl rfl Try.sizeOf33 rfl rfl (by first | (right; assumption) | (left; simp)) ?_)
        | refine vc_e (e_sts (vs := [_, _, _, _]) st 1 rfl rfl rfl rfl rfl Try.sizeOf33 rfl rfl (by first | (right; assumption) | (left; simp)) ?_)
        | refine vc_e (e_sts (vs := [_, _, _, _]) st 2 rfl rfl rfl rfl rfl Try.sizeOf33 rfl rfl (by first | (right; assumption) | (left; simp)) ?_)
        | refine vc_e (e_sts (vs := [_, _, _, _]) st 3 rfl rfl rfl rfl rfl Try.sizeOf33 rfl rfl (by first | (right; assumption) | (left; simp)) ?_)
        | refine vc_e (e_sts (vs := [_, _, _, _]) st 4 rfl rfl rfl rfl rfl Try.sizeOf33 rfl rfl (by first | (right; assumption) | (left; simp)) ?_)
        intro w st; dsimp only [setNth, wr] at st
        refine vc_end ?_
        refine vq_then ?_
        refine vc_keep [(0, _), (3, _), (6, _), (7, _), (8, _)] ⟨rfl, rfl, rfl, rfl, rfl, trivial⟩ ?_
        refine vc_seq ?_
        refine vc_seq ?_
        refine vc_draw Try.mixed [(0, true), (1, true), (2, true), (3, true), (4, true), (5, true), (6, true), (7, true), (8, true), (9, true), (10, true), (11, true), (12, true), (13, true), (14, true), (15, true), (16, true), (17, true), (18, true), (19, true), (20, true), (21, true), (22, true), (23, true), (24, true), (25, true), (26, true), (27, true), (28, true), (29, true), (30, true), (31, true), (32, true), (33, true), (34, true), (35, true), (36, true), (37, true), (38, true), (39, true), (40, true), (41, true), (42, true)] (fun w => St _ _ _ w) st (by kernel_rfl) (by repeat (first | exact okQ_body | refine okQ_then ?_ | refine okQ_block ?_)) rfl (by kernel_rfl) ?_
        intro w cd; replace st := st.call0 cd; clear cd
        have hS := st
        refine vp_take rfl rfl rfl hS (fun w st => (by first | exact y_faz (k := 3) rfl Try.underlying33 rfl rfl Try.sizeOf3 rfl | exact y_fa (k := 3) rfl Try.underlying33 rfl rfl Try.sizeOf3 rfl)) ?_
        refine vp_take rfl rfl rfl hS (fun w st => (by first | exact y_ld st 0 rfl Try.isAgg3 rfl rfl | exact y_ld st 1 rfl Try.isAgg3 rfl rfl | exact y_ld st 2 rfl Try.isAgg3 rfl rfl | exact y_ld st 3 rfl Try.isAgg3 rfl rfl | exact y_ld st 4 rfl Try.isAgg3 rfl rfl)) ?_
        refine vp_take rfl rfl rfl hS (fun w st => y_mv rfl) ?_
        refine vp_take rfl rfl rfl hS (fun w st => y_lss rfl rfl) ?_
        refine vp_part rfl rfl rfl hS rfl ?_ ?_
        · intro hg41
          (exfalso; simp at hg41; omega)
        · intro hg41
          try simp only [decide_eq_true_eq, decide_eq_false_iff_not, Bool.not_eq_true', Bool.not_eq_false', Bool.not_eq_true, Bool.not_eq_false, Int.not_lt, Int.not_le, Nat.not_lt, Nat.not_le, Bool.not_true, Bool.not_false, Bool.true_eq_false, Bool.false_eq_true] at hg41
          refine vp_take rfl rfl rfl hS (fun w st => (by first | exact y_faz (k := 3) rfl Try.underlying33 rfl rfl Try.sizeOf3 rfl | exact y_fa (k := 3) rfl Try.underlying33 rfl rfl Try.sizeOf3 rfl)) ?_
          refine vp_take rfl rfl rfl hS (fun w st => (by first | exact y_ld st 0 rfl Try.isAgg3 rfl rfl | exact y_ld st 1 rfl Try.isAgg3 rfl rfl | exact y_ld st 2 rfl Try.isAgg3 rfl rfl | exact y_ld st 3 rfl Try.isAgg3 rfl rfl | exact y_ld st 4 rfl Try.isAgg3 rfl rfl)) ?_
          refine vp_take rfl rfl rfl hS (fun w st => y_mv rfl) ?_
          refine vp_take rfl rfl rfl hS (fun w st => y_lens rfl Try.underlying9) ?_
          refine vp_take rfl rfl rfl hS (fun w st => y_gtr rfl rfl) ?_
          refine vp_take rfl rfl rfl hS (fun w st => y_pickf rfl rfl) ?_
          refine vp_part rfl rfl rfl hS rfl ?_ ?_
          · intro hg48
            (exfalso; simp at hg48; omega)
          · intro hg48
            try simp only [decide_eq_true_eq, decide_eq_false_iff_not, Bool.not_eq_true', Bool.not_eq_false', Bool.not_eq_true, Bool.not_eq_false, Int.not_lt, Int.not_le, Nat.not_lt, Nat.not_le, Bool.not_true, Bool.not_false, Bool.true_eq_false, Bool.false_eq_true] at hg48
            refine vp_take rfl rfl rfl hS (fun w st => (by first | exact y_faz (k := 1) rfl Try.underlying33 rfl rfl Try.sizeOf9 rfl | exact y_fa (k := 1) rfl Try.underlying33 rfl rfl Try.sizeOf9 rfl)) ?_
            refine vp_take rfl rfl rfl hS (fun w st => (by first | exact y_ld st 0 rfl Try.isAgg9 rfl rfl | exact y_ld st 1 rfl Try.isAgg9 rfl rfl | exact y_ld st 2 rfl Try.isAgg9 rfl rfl | exact y_ld st 3 rfl Try.isAgg9 rfl rfl | exact y_ld st 4 rfl Try.isAgg9 rfl rfl)) ?_
            refine vp_take rfl rfl rfl hS (fun w st => y_lens rfl Try.underlying9) ?_
            refine vp_take rfl rfl rfl hS (fun w st => y_lss rfl rfl) ?_
            refine vp_take rfl rfl rfl hS (fun w st => y_pickf rfl rfl) ?_
            refine vp_part rfl rfl rfl hS rfl ?_ ?_
            · intro hg54
              (exfalso; simp at hg54; omega)
            · intro hg54
              try simp only [decide_eq_true_eq, decide_eq_false_iff_not, Bool.not_eq_true', Bool.not_eq_false', Bool.not_eq_true, Bool.not_eq_false, Int.not_lt, Int.not_le, Nat.not_lt, Nat.not_le, Bool.not_true, Bool.not_false, Bool.true_eq_false, Bool.false_eq_true] at hg54
              refine vp_take rfl rfl rfl hS (fun w st => (by first | exact y_faz (k := 1) rfl Try.underlying33 rfl rfl Try.sizeOf9 rfl | exact y_fa (k := 1) rfl Try.underlying33 rfl rfl Try.sizeOf9 rfl)) ?_
              refine vp_take rfl rfl rfl hS (fun w st => (by first | exact y_ld st 0 rfl Try.isAgg9 rfl rfl | exact y_ld st 1 rfl Try.isAgg9 rfl rfl | exact y_ld st 2 rfl Try.isAgg9 rfl rfl | exact y_ld st 3 rfl Try.isAgg9 rfl rfl | exact y_ld st 4 rfl Try.isAgg9 rfl rfl)) ?_
              refine vp_take rfl rfl rfl hS (fun w st => y_lens rfl Try.underlying9) ?_
              refine vp_take rfl rfl rfl hS (fun w st => y_mv rfl) ?_
              refine vp_take rfl rfl rfl hS (fun w st => y_lens rfl Try.underlying9) ?_
              refine vp_take rfl rfl rfl hS (fun w st => (by first | exact y_faz (k := 3) rfl Try.underlying33 rfl rfl Try.sizeOf3 rfl | exact y_fa (k := 3) rfl Try.underlying33 rfl rfl Try.sizeOf3 rfl)) ?_
              refine vp_take rfl rfl rfl hS (fun w st => (by first | exact y_ld st 0 rfl Try.isAgg3 rfl rfl | exact y_ld st 1 rfl Try.isAgg3 rfl rfl | exact y_ld st 2 rfl Try.isAgg3 rfl rfl | exact y_ld st 3 rfl Try.isAgg3 rfl rfl | exact y_ld st 4 rfl Try.isAgg3 rfl rfl)) ?_
              refine vp_take rfl rfl rfl hS (fun w st => y_sub rfl rfl rfl (by omega) (by omega)) ?_
              refine vp_take rfl rfl rfl hS (fun w st => y_gtr rfl rfl) ?_
              refine vp_take rfl rfl rfl hS (fun w st => y_pickf rfl rfl) ?_
              refine vp_part rfl rfl rfl hS rfl ?_ ?_
              · intro hg65
                (exfalso; simp at hg65; omega)
              · intro hg65
                try simp only [decide_eq_true_eq, decide_eq_false_iff_not, Bool.not_eq_true', Bool.not_eq_false', Bool.not_eq_true, Bool.not_eq_false, Int.not_lt, Int.not_le, Nat.not_lt, Nat.not_le, Bool.not_true, Bool.not_false, Bool.true_eq_false, Bool.false_eq_true] at hg65
                refine vp_take rfl rfl rfl hS (fun w st => y_mv rfl) ?_
                refine vp_take rfl rfl rfl hS (fun w st => (by first | exact y_faz (k := 3) rfl Try.underlying33 rfl rfl Try.sizeOf3 rfl | exact y_fa (k := 3) rfl Try.underlying33 rfl rfl Try.sizeOf3 rfl)) ?_
                refine vp_take rfl rfl rfl hS (fun w st => (by first | exact y_ld st 0 rfl Try.isAgg3 rfl rfl | exact y_ld st 1 rfl Try.isAgg3 rfl rfl | exact y_ld st 2 rfl Try.isAgg3 rfl rfl | exact y_ld st 3 rfl Try.isAgg3 rfl rfl | exact y_ld st 4 rfl Try.isAgg3 rfl rfl)) ?_
                refine vp_take rfl rfl rfl hS (fun w st => (by first | exact y_faz (k := 3) rfl Try.underlying33 rfl rfl Try.sizeOf3 rfl | exact y_fa (k := 3) rfl Try.underlying33 rfl rfl Try.sizeOf3 rfl)) ?_
                refine vp_take rfl rfl rfl hS (fun w st => (by first | exact y_ld st 0 rfl Try.isAgg3 rfl rfl | exact y_ld st 1 rfl Try.isAgg3 rfl rfl | exact y_ld st 2 rfl Try.isAgg3 rfl rfl | exact y_ld st 3 rfl Try.isAgg3 rfl rfl | exact y_ld st 4 rfl Try.isAgg3 rfl rfl)) ?_
                refine vp_take rfl rfl rfl hS (fun w st => (by first | exact y_faz (k := 1) rfl Try.underlying33 rfl rfl Try.sizeOf9 rfl | exact y_fa (k := 1) rfl Try.underlying33 rfl rfl Try.sizeOf9 rfl)) ?_
                refine vp_take rfl rfl rfl hS (fun w st => (by first | exact y_ld st 0 rfl Try.isAgg9 rfl rfl | exact y_ld st 1 rfl Try.isAgg9 rfl rfl | exact y_ld st 2 rfl Try.isAgg9 rfl rfl | exact y_ld st 3 rfl Try.isAgg9 rfl rfl | exact y_ld st 4 rfl Try.isAgg9 rfl rfl)) ?_
                refine vp_take rfl rfl rfl hS (fun w st => y_lens rfl Try.underlying9) ?_
                refine vp_take rfl rfl rfl hS (fun w st => y_add rfl rfl (by omega : _ = ((x.at_ + x.text.length : Nat) : Int)) (by omega) (by omega)) ?_
                refine vp_take rfl rfl rfl hS (fun w st => y_sls (i := x.at_) (j := (x.at_ + x.text.length)) rfl rfl rfl Try.underlying9 rfl rfl (by omega) (by omega)) ?_
                refine vp_take rfl rfl rfl hS (fun w st => (by first | exact y_faz (k := 1) rfl Try.underlying33 rfl rfl Try.sizeOf9 rfl | exact y_fa (k := 1) rfl Try.underlying33 rfl rfl Try.sizeOf9 rfl)) ?_
                refine vp_take rfl rfl rfl hS (fun w st => (by first | exact y_ld st 0 rfl Try.isAgg9 rfl rfl | exact y_ld st 1 rfl Try.isAgg9 rfl rfl | exact y_ld st 2 rfl Try.isAgg9 rfl rfl | exact y_ld st 3 rfl Try.isAgg9 rfl rfl | exact y_ld st 4 rfl Try.isAgg9 rfl rfl)) ?_
                refine vp_take rfl rfl rfl hS (fun w st => y_nes rfl rfl) ?_
                refine vp_take rfl rfl rfl hS (fun w st => y_pickf rfl rfl) ?_
                refine vp_end ?_
                refine vq_then ?_
                refine vc_keep [(0, _), (3, _), (6, _), (7, _), (8, _), (79, _)] ⟨rfl, rfl, rfl, rfl, rfl, rfl, trivial⟩ ?_
                refine vc_ifs rfl ?_ ?_
                · intro hc79
                  (exfalso; rw [Nat.add_sub_cancel_left, ← htl2] at hc79; simp at hc79)
                · intro hc79
                  try simp only [decide_eq_true_eq, decide_eq_false_iff_not, Bool.not_eq_true', Bool.not_eq_false', Bool.not_eq_true, Bool.not_eq_false, Int.not_lt, Int.not_le, Nat.not_lt, Nat.not_le, Bool.not_true, Bool.not_false, Bool.true_eq_false, Bool.false_eq_true] at hc79
                  refine vc_code_skip ?_
                  refine vq_then ?_
                  refine vc_keep [(0, _), (3, _), (6, _), (7, _), (8, _)] ⟨rfl, rfl, rfl, rfl, rfl, trivial⟩ ?_
                  refine vc_seq ?_
                  refine vc_region ?_
                  refine vc_y rfl rfl (y_mv rfl) ?_
                  refine vc_y rfl rfl (y_mv rfl) ?_
                  refine vc_y rfl rfl ((by first | exact y_faz (k := 3) rfl Try.underlying33 rfl rfl Try.sizeOf3 rfl | exact y_fa (k := 3) rfl Try.underlying33 rfl rfl Try.sizeOf3 rfl)) ?_
                  refine vc_y rfl rfl ((by first | exact y_ld st 0 rfl Try.isAgg3 rfl rfl | exact y_ld st 1 rfl Try.isAgg3 rfl rfl | exact y_ld st 2 rfl Try.isAgg3 rfl rfl | exact y_ld st 3 rfl Try.isAgg3 rfl rfl | exact y_ld st 4 rfl Try.isAgg3 rfl rfl)) ?_
                  refine vc_y rfl rfl (y_sls (i := i) (j := x.at_) rfl rfl rfl Try.underlying9 rfl rfl (by omega) (by omega)) ?_
                  refine vc_e (e_call [_] rfl rfl Try.call21 rfl (scan_eq _ [] (by rw [hblank]) 0 0 0 (by rw [hblank]) _) ?_)
                  rintro _ w ⟨cw, ob, cb, rfl, how⟩
                  replace st := st.call0 cw
                  refine vc_y rfl rfl (y_mv rfl) ?_
                  refine vc_y rfl rfl (y_ext rfl rfl) ?_
                  refine vc_y rfl rfl (y_ext rfl rfl) ?_
                  refine vc_y rfl rfl (y_ext rfl rfl) ?_
                  refine vc_e (e_al (l := [_, _]) st rfl rfl Try.zeroValue27 rfl ?_)
                  intro b11 w hb11 st
                  refine vc_y rfl rfl (y_as rfl) ?_
                  refine vc_y rfl rfl (y_as rfl) ?_
                  first
                  | refine vc_e (e_sts (vs := [_, _]) st 0 rfl rfl rfl rfl rfl Try.sizeOf27 rfl rfl (by first | (right; assumption) | (left; simp)) ?_)
                  | refine vc_e (e_sts (vs := [_, _]) st 1 rfl rfl rfl rfl rfl Try.sizeOf27 rfl rfl (by first | (right; assumption) | (left; simp)) ?_)
                  | refine vc_e (e_sts (vs := [_, _]) st 2 rfl rfl rfl rfl rfl Try.sizeOf27 rfl rfl (by first | (right; assumption) | (left; simp)) ?_)
                  | refine vc_e (e_sts (vs := [_, _]) st 3 rfl rfl rfl rfl rfl Try.sizeOf27 rfl rfl (by first | (right; assumption) | (left; simp)) ?_)
                  | refine vc_e (e_sts (vs := [_, _]) st 4 rfl rfl rfl rfl rfl Try.sizeOf27 rfl rfl (by first | (right; assumption) | (left; simp)) ?_)
                  intro w st; dsimp only [setNth, wr] at st
                  refine vc_end ?_
                  refine vq_then ?_
                  refine vc_keep [(0, _), (3, _), (7, _), (8, _), (9, _), (10, _)] ⟨rfl, rfl, rfl, rfl, rfl, rfl, trivial⟩ ?_
                  refine vc_seq ?_
                  refine vc_seq ?_
                  refine vc_region ?_
                  refine vc_y rfl rfl (y_mv rfl) ?_
                  refine vc_y rfl rfl (y_nei rfl rfl) ?_
                  refine vc_e (e_mvb rfl rfl rfl ?_ ?_)
                  · intro hg92
                    (exfalso; simp at hg92)
                  · intro hg92
                    try simp only [decide_eq_true_eq, decide_eq_false_iff_not, Bool.not_eq_true', Bool.not_eq_false', Bool.not_eq_true, Bool.not_eq_false, Int.not_lt, Int.not_le, Nat.not_lt, Nat.not_le, Bool.not_true, Bool.not_false, Bool.true_eq_false, Bool.false_eq_true] at hg92
                    refine vc_y rfl rfl (y_mv rfl) ?_
                    refine vc_y rfl rfl (y_lensl rfl Try.underlying24) ?_
                    refine vc_y rfl rfl (y_gtr rfl rfl) ?_
                    refine vc_y rfl rfl (y_pickf rfl rfl) ?_
                    refine vc_end ?_
                    refine vq_then ?_
                    refine vc_keep [(0, _), (3, _), (7, _), (8, _), (96, _)] ⟨rfl, rfl, rfl, rfl, rfl, trivial⟩ ?_
                    refine vc_ifs rfl ?_ ?_
                    · intro hc96
                      (exfalso; simp at hc96)
                    · intro hc96
                      try simp only [decide_eq_true_eq, decide_eq_false_iff_not, Bool.not_eq_true', Bool.not_eq_false', Bool.not_eq_true, Bool.not_eq_false, Int.not_lt, Int.not_le, Nat.not_lt, Nat.not_le, Bool.not_true, Bool.not_false, Bool.true_eq_false, Bool.false_eq_true] at hc96
                      refine vc_code_skip ?_
                      refine vq_then ?_
                      refine vc_keep [(0, _), (3, _), (7, _), (8, _)] ⟨rfl, rfl, rfl, rfl, trivial⟩ ?_
                      refine vc_region ?_
                      refine vc_y rfl rfl ((by first | exact y_faz (k := 3) rfl Try.underlying33 rfl rfl Try.sizeOf3 rfl | exact y_fa (k := 3) rfl Try.underlying33 rfl rfl Try.sizeOf3 rfl)) ?_
                      refine vc_y rfl rfl ((by first | exact y_ld st 0 rfl Try.isAgg3 rfl rfl | exact y_ld st 1 rfl Try.isAgg3 rfl rfl | exact y_ld st 2 rfl Try.isAgg3 rfl rfl | exact y_ld st 3 rfl Try.isAgg3 rfl rfl | exact y_ld st 4 rfl Try.isAgg3 rfl rfl)) ?_
                      refine vc_y rfl rfl ((by first | exact y_faz (k := 1) rfl Try.underlying33 rfl rfl Try.sizeOf9 rfl | exact y_fa (k := 1) rfl Try.underlying33 rfl rfl Try.sizeOf9 rfl)) ?_
                      refine vc_y rfl rfl ((by first | exact y_ld st 0 rfl Try.isAgg9 rfl rfl | exact y_ld st 1 rfl Try.isAgg9 rfl rfl | exact y_ld st 2 rfl Try.isAgg9 rfl rfl | exact y_ld st 3 rfl Try.isAgg9 rfl rfl | exact y_ld st 4 rfl Try.isAgg9 rfl rfl)) ?_
                      refine vc_y rfl rfl (y_lens rfl Try.underlying9) ?_
                      refine vc_y rfl rfl (y_add rfl rfl (by omega : _ = ((x.at_ + x.text.length : Nat) : Int)) (by omega) (by omega)) ?_
                      refine vc_y rfl rfl (y_as rfl) ?_
                      refine vc_end ?_
                      refine vq_block ?_
                      refine vq_then ?_
                      refine vc_keep [(0, _), (3, _), (6, _), (7, _)] ⟨rfl, rfl, rfl, rfl, trivial⟩ ?_
                      refine vc_region ?_
                      refine vc_y rfl rfl (y_mv rfl) ?_
                      refine vc_y rfl rfl (y_add rfl rfl rfl (by omega) (by omega)) ?_
                      refine vc_y rfl rfl (y_as rfl) ?_
                      refine vc_end ?_
                      refine vq_again (j + 1, x.at_ + x.text.length) ⟨rfl, rfl, rfl, rfl, trivial⟩ (st.drop (by repeat (first | exact List.Sublist.slnil | apply List.Sublist.cons_cons | apply List.Sublist.cons))) ⟨by dsimp only; omega, hle, hrest⟩ (by dsimp only; omega)
      · intro hc30
        try simp only [decide_eq_true_eq, decide_eq_false_iff_not, Bool.not_eq_true', Bool.not_eq_false', Bool.not_eq_true, Bool.not_eq_false, Int.not_lt, Int.not_le, Nat.not_lt, Nat.not_le, Bool.not_true, Bool.not_false, Bool.true_eq_false, Bool.false_eq_true] at hc30
        have hlast : scanRes (l.drop i) = ([], 0, 0, 0) := by
          rw [show j = T.length by omega, List.drop_length] at hsc
          exact scanRes_blank (by simp; omega) (scanA_nil_inv hsc)
        refine vc_exit ?_
        refine vq_then_exit ?_
        refine vq_then_exit ?_
        refine vq_block_exit ?_
        refine vq_then ?_
        refine vc_keep [(0, _), (6, _)] ⟨rfl, rfl, trivial⟩ ?_
        refine vc_seq ?_
        refine vc_region ?_
        refine vc_y rfl rfl (y_mv rfl) ?_
        refine vc_y rfl rfl (y_mv rfl) ?_
        refine vc_y rfl rfl (y_slf (i := i) rfl rfl Try.underlying9 rfl (by omega)) ?_
        refine vc_e (e_call [_] rfl rfl Try.call21 rfl (scan_eq _ [] (by rw [hlast]) 0 0 0 (by rw [hlast]) _) ?_)
        rintro _ w ⟨cw, ob, cb, rfl, how⟩
        replace st := st.call0 cw
        refine vc_y rfl rfl (y_mv rfl) ?_
        refine vc_y rfl rfl (y_ext rfl rfl) ?_
        refine vc_y rfl rfl (y_ext rfl rfl) ?_
        refine vc_y rfl rfl (y_ext rfl rfl) ?_
        refine vc_e (e_al (l := [_, _]) st rfl rfl Try.zeroValue27 rfl ?_)
        intro b13 w hb13 st
        refine vc_y rfl rfl (y_as rfl) ?_
        refine vc_y rfl rfl (y_as rfl) ?_
        first
        | refine vc_e (e_sts (vs := [_, _]) st 0 rfl rfl rfl rfl rfl Try.sizeOf27 rfl rfl (by first | (right; assumption) | (left; simp)) ?_)
        | refine vc_e (e_sts (vs := [_, _]) st 1 rfl rfl rfl rfl rfl Try.sizeOf27 rfl rfl (by first | (right; assumption) | (left; simp)) ?_)
        | refine vc_e (e_sts (vs := [_, _]) st 2 rfl rfl rfl rfl rfl Try.sizeOf27 rfl rfl (by first | (right; assumption) | (left; simp)) ?_)
        | refine vc_e (e_sts (vs := [_, _]) st 3 rfl rfl rfl rfl rfl Try.sizeOf27 rfl rfl (by first | (right; assumption) | (left; simp)) ?_)
        | refine vc_e (e_sts (vs := [_, _]) st 4 rfl rfl rfl rfl rfl Try.sizeOf27 rfl rfl (by first | (right; assumption) | (left; simp)) ?_)
        intro w st; dsimp only [setNth, wr] at st
        refine vc_end ?_
        refine vq_then ?_
        refine vc_keep [(4, _), (12, _)] ⟨rfl, rfl, trivial⟩ ?_
        refine vc_seq ?_
        refine vc_region ?_
        refine vc_y rfl rfl (y_mv rfl) ?_
        refine vc_y rfl rfl (y_eqi rfl rfl) ?_
        refine vc_e (e_mvb rfl rfl rfl ?_ ?_)
        · intro hg113
          try simp only [decide_eq_true_eq, decide_eq_false_iff_not, Bool.not_eq_true', Bool.not_eq_false', Bool.not_eq_true, Bool.not_eq_false, Int.not_lt, Int.not_le, Nat.not_lt, Nat.not_le, Bool.not_true, Bool.not_false, Bool.true_eq_false, Bool.false_eq_true] at hg113
          refine vc_y rfl rfl (y_mv rfl) ?_
          refine vc_y rfl rfl (y_lensl rfl Try.underlying24) ?_
          refine vc_y rfl rfl (y_eqi rfl rfl) ?_
          refine vc_y rfl rfl (y_pickt rfl rfl) ?_
          refine vc_y rfl rfl (y_as rfl) ?_
          refine vc_end ?_
          refine vq_then ?_
          refine vc_keep [(2, _)] ⟨rfl, trivial⟩ ?_
          refine vc_ret ?_
          refine vq_ret1 st (.inl rfl) Try.results6 (.tmp rfl) ?_
          refine ⟨_, rfl, ?_⟩
          refine ⟨?_, st.chg⟩
          first
          | (simp; done)
          | (rw [hT0]; simp)
        · intro hg113
          (exfalso; simp at hg113)

theorem own6 : ownKnob Try.prog.godebug = none := by kernel_rfl
set_option maxRecDepth 100000 in
theorem liftedLexerStands (os : Os) (started : os.Started) (H : Type) (enc : TypeId × Value → H) :
    ReturnsInHanded {} Try.checked os 6 .any (Rows.lexerStandsSpec.pre6 enc Try.prog Try.f6 Rows.lexerStandsRow.domain false) (Rows.lexerStandsSpec.post enc Try.prog Try.f6 false true false false) := by
  refine returnsInHanded_of_change (C := Try.checked) own6 started (by kernel_rfl) Try.func6
    (ChangeSpec.witness6 (enc := enc) (C := Try.checked) false ⟨#[], #[.string ⟨#[]⟩], []⟩ 8 (by kernel_rfl) (by kernel_rfl) (by kernel_rfl) (by kernel_rfl)) ?_
  intro W base args ds gs before hval0 hW hcnd _
  have hval : ∀ (j : Nat) t v, Try.f6.params[j]? = some t → args[j]? = some v → Value.okWide Try.prog W .any base t v := hval0
  have hW' := hW
  obtain ⟨p, q, hA0, hV, rfl, hfz, hnd⟩ := hW
  have hA : DataW.TrodAll enc Try.prog W 0 (fun _ => true) true Try.f6.params.toList args.toList ds p := hA0
  rw [Try.params6] at hA hval
  obtain ⟨v0, vs0, d0, ds0, p0, q0, hargs, rfl, rfl, h0, r0⟩ := trodAll_cons hA
  obtain ⟨rfl, rfl, rfl⟩ := trodAll_nil r0
  obtain rfl : args = #[v0] := by cases args; simp_all
  obtain ⟨rfl, rfl⟩ := trodVars_none hV
  obtain ⟨a0, rfl, rfl, rfl, w0⟩ := open_string Try.underlying9 (hval 0 9 v0 rfl rfl) h0
  clear hA0 hval0
  have hwalk := lawLexerStands a0.data.toList w0 W
  refine Calls.mono hwalk fun e W' ⟨u, he, hu, hc⟩ => ?_
  subst he
  subst hu
  have bel := hc.below
  exact ⟨_, rfl, _, _, _, [], _, [], hW', trodAll_mk1 (shut_bool Try.underlying4 _), (trodAll_cons_mk (shut_string Try.underlying9 w0) trodAll_mk0), rfl, bel.frame _, fun h => by cases h⟩
theorem overLexerStands : Rows.lexerStandsRow.holds Try.pinned (OpenSpec.ofChange Rows.lexerStandsSpec) :=
  OpenClaim.holds_of_wide 6 Try.f6 rfl rfl rfl rfl rfl rfl rfl ⟨rfl, rfl, rfl, rfl, rfl⟩ rfl rfl rfl rfl rfl (by kernel_rfl) Try.func6 (by kernel_rfl)
    (of_decide_eq_true (by kernel_rfl)) (by unfold Func.isWrapper; first | (rw [if_pos (by decide +kernel)]; kernel_rfl) | (rw [if_neg (by decide +kernel)]; exact ⟨rfl, rfl⟩))
    (fun os started H enc _ => liftedLexerStands os started H enc)
theorem provedLexerStands : Rows.LexerStandsSaid := overLexerStands

end Go.Proofs.Ytakepmhgmgpkkaa
