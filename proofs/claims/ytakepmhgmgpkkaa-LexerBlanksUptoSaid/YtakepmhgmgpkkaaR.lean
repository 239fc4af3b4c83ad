/- Blanks and a remark between two tokens change nothing but places. Condition: what the law reads is of bulk at most 1048576. -/
import Derived.Test.YtakepmhgmgpkkaaQ
import Derived.Test.YtakepmhgmgpkkaaSpec3
import Derived.Test.YtakepmhgmgpkkaaSxDraw2
namespace Go.Proofs.Ytakepmhgmgpkkaa
open Go.ChangeShapes Go.WideShapes Go.ChangeAt Go.RowKit
open Go.ChangeMaps (open_string shut_string)
open Sx LexS
set_option linter.unusedVariables false
set_option linter.unusedSimpArgs false
theorem sameP_of {A B : List Tok} (h : SameN A B) : SameP false (A.map tvOf) (B.map tvOf) := by
  have hl : A.length = B.length := by have := congrArg List.length h; simpa using this
  refine ⟨by simpa using hl, fun j hj => ?_⟩
  have hj' : j < A.length := by simpa using hj
  have hjB : j < B.length := by omega
  have e : (A.map (fun t => (t.kind, t.text, t.word)))[j]? = (B.map (fun t => (t.kind, t.text, t.word)))[j]? := by rw [h]
  simp only [List.getElem?_map, List.getElem?_eq_getElem hj', List.getElem?_eq_getElem hjB, Option.map_some, Option.some.injEq, Prod.mk.injEq] at e
  have ea : (A.map tvOf).getD j tv0 = tvOf A[j] := by simp [List.getD, hj']
  have eb : (B.map tvOf).getD j tv0 = tvOf B[j] := by simp [List.getD, hjB]
  rw [ea, eb]
  exact ⟨by simp only [tvOf, e.1], by simp only [tvOf, e.2.1], by simp only [tvOf, e.2.2], fun h => by cases h⟩
theorem scanRes_of {s : List UInt8} {T : List Tok} (hs : s.length ≤ 65536) (h : scanA s 0 = (T, none)) : scanRes s = (T, 0, 0, 0) := by
  unfold scanRes
  rw [if_neg (by omega), front_eq, h]
theorem blanks_in {l rm : List UInt8} {T : List Tok} {k c : Nat} (M : List UInt8) (hno : ∀ x ∈ rm, x ≠ 10) (hsc : scanA l 0 = (T, none)) (hk : k ≤ T.length)
    (h : (k < T.length ∧ (∀ t, T[k]? = some t → c = t.at_) ∧ M = someBlanks rm) ∨ (k = T.length ∧ c = l.length ∧ M = 10 :: someBlanks rm)) (hlen : (l.take c ++ (M ++ l.drop c)).length ≤ 65536) :
    ∃ T', scanRes (l.take c ++ (M ++ l.drop c)) = (T', 0, 0, 0) ∧ SameN T T' := by
  rcases h with ⟨h1, h2, rfl⟩ | ⟨rfl, rfl, rfl⟩
  · obtain ⟨T', h3, h4⟩ := scan_blanks (someBlanks rm) 32 _ rfl (by decide) (fun Z => skip_someBlanks rm hno Z) k T l 0 c hsc hk (fun t ht => by have := h2 t ht; omega) (fun e => by omega)
    exact ⟨T', scanRes_of hlen h3, h4⟩
  · obtain ⟨T', h3, h4⟩ := scan_blanks (10 :: someBlanks rm) 10 _ rfl (by decide) (fun Z => by rw [List.cons_append, skip_blank lf_blank, skip_someBlanks rm hno Z]; simp; omega) T.length T l 0 l.length hsc hk (fun t ht => by simp at ht) (fun e => ⟨rfl, _, rfl⟩)
    exact ⟨T', scanRes_of hlen h3, h4⟩

set_option maxHeartbeats 2000000 in
theorem lawLexerBlanks (l : List UInt8) (hl : l.length ≤ maxLen) (k : Int) (hk : (Lit.int .i64 k).wf = true) (rm : List UInt8) (hrm : rm.length ≤ maxLen) (hsmall : l.length + 0 + rm.length ≤ 1048576) (w : World) : Ret Try.prog 5 [str l, .int .i64 k, str rm] w fun v w' => v = .bool true ∧ Chg [] w w' := by
  refine ret_of [_, _, _] Try.func5 rfl Try.ntmps5 rfl ?_
  have st := St.init w []
  obtain ⟨T, hT⟩ : ∃ T, (scanRes l).1 = T := ⟨_, rfl⟩
  obtain ⟨e, a, r, he⟩ : ∃ e a r, (scanRes l).2 = (e, a, r) := ⟨_, _, _, rfl⟩
  have hlen := scanRes_len l
  rw [hT] at hlen
  refine vc_seq ?_
  refine vc_region ?_
  refine vc_y rfl rfl (y_as rfl) ?_
  refine vc_end ?_
  refine vq_then ?_
  refine vc_keep [(0, _), (1, _), (2, _)] ⟨rfl, rfl, rfl, trivial⟩ ?_
  refine vc_seq ?_
  refine vc_seq ?_
  refine vc_region ?_
  refine vc_e (e_call [] rfl rfl Try.call20 rfl (begins_any _) ?_)
  rintro _ w ⟨rfl, cb⟩
  replace st := st.call0 cb
  refine vc_y rfl rfl (y_not rfl) ?_
  refine vc_end ?_
  refine vq_then ?_
  refine vc_keep [(0, _), (1, _), (2, _), (16, _)] ⟨rfl, rfl, rfl, rfl, trivial⟩ ?_
  refine vc_ifs rfl ?_ ?_
  · intro hc16
    simp at hc16
  · intro hc16
    try simp only [decide_eq_true_eq, decide_eq_false_iff_not, Bool.not_eq_true', Bool.not_eq_false', Bool.not_eq_true, Bool.not_eq_false, Int.not_lt, Int.not_le, Nat.not_lt, Nat.not_le, Bool.not_true, Bool.not_false, Bool.true_eq_false, Bool.false_eq_true] at hc16
    refine vc_code_skip ?_
    refine vq_then ?_
    refine vc_keep [(0, _), (1, _), (2, _)] ⟨rfl, rfl, rfl, trivial⟩ ?_
    refine vc_seq ?_
    refine vc_seq ?_
    refine vc_region ?_
    refine vc_y rfl rfl (y_as rfl) ?_
    refine vc_end ?_
    refine vq_then ?_
    refine vc_keep [(0, _), (1, _), (2, _), (7, _)] ⟨rfl, rfl, rfl, rfl, trivial⟩ ?_
    refine vc_block ?_
    refine vc_loop (w0 := _) (M := _) (fun (j : Nat) => [(0, str l), (1, .int .i64 k), (2, str rm), (7, .int .i64 (j : Int))]) (fun _ => []) (fun j w' => j ≤ rm.length ∧ ∀ i, i < j → ¬((rm.getD i 0).toNat : Int) = 10) (fun j => rm.length - j) 0 ⟨rfl, rfl, rfl, rfl, trivial⟩ st ⟨by omega, by intro i hi; omega⟩ ?_
    rintro j w ⟨hj, hall⟩ st
    refine vc_seq ?_
    refine vc_seq ?_
    refine vc_region ?_
    refine vc_y rfl rfl (y_mv rfl) ?_
    refine vc_y rfl rfl (y_mv rfl) ?_
    refine vc_y rfl rfl (y_lens rfl Try.underlying9) ?_
    refine vc_y rfl rfl (y_lss rfl rfl) ?_
    refine vc_end ?_
    refine vq_then ?_
    refine vc_keep [(0, _), (1, _), (2, _), (7, _), (20, _)] ⟨rfl, rfl, rfl, rfl, rfl, trivial⟩ ?_
    refine vc_ifs rfl ?_ ?_
    · intro hc20
      try simp only [decide_eq_true_eq, decide_eq_false_iff_not, Bool.not_eq_true', Bool.not_eq_false', Bool.not_eq_true, Bool.not_eq_false, Int.not_lt, Int.not_le, Nat.not_lt, Nat.not_le, Bool.not_true, Bool.not_false, Bool.true_eq_false, Bool.false_eq_true] at hc20
      refine vc_code_skip ?_
      refine vq_then ?_
      refine vc_keep [(0, _), (1, _), (2, _), (7, _)] ⟨rfl, rfl, rfl, rfl, trivial⟩ ?_
      refine vc_seq ?_
      refine vc_block ?_
      refine vc_seq ?_
      refine vc_region ?_
      refine vc_y rfl rfl (y_mv rfl) ?_
      refine vc_y rfl rfl (y_mv rfl) ?_
      refine vc_y rfl rfl (y_ixs (k := j) rfl rfl Try.underlying9 rfl (by omega)) ?_
      refine vc_y rfl rfl (y_eqi rfl rfl) ?_
      refine vc_end ?_
      refine vq_then ?_
      refine vc_keep [(0, _), (1, _), (2, _), (7, _), (26, _)] ⟨rfl, rfl, rfl, rfl, rfl, trivial⟩ ?_
      refine vc_ifs rfl ?_ ?_
      · intro hc26
        try simp only [decide_eq_true_eq, decide_eq_false_iff_not, Bool.not_eq_true', Bool.not_eq_false', Bool.not_eq_true, Bool.not_eq_false, Int.not_lt, Int.not_le, Nat.not_lt, Nat.not_le, Bool.not_true, Bool.not_false, Bool.true_eq_false, Bool.false_eq_true] at hc26
        refine vc_seq ?_
        refine vc_region ?_
        refine vc_y rfl rfl (y_as rfl) ?_
        refine vc_end ?_
        refine vq_then ?_
        refine vc_keep [(6, _)] ⟨rfl, trivial⟩ ?_
        refine vc_ret ?_
        refine vq_block_ret ?_
        refine vq_then_ret ?_
        refine vq_then_ret ?_
        refine vq_block_ret ?_
        refine vq_then_ret ?_
        refine vq_ret1 st (.inl rfl) Try.results5 (.tmp rfl) ?_
        refine ⟨_, rfl, ?_⟩
        refine ⟨?_, st.chg⟩
        first | rfl | (simp; done) | (simp [hs2]; done)
      · intro hc26
        try simp only [decide_eq_true_eq, decide_eq_false_iff_not, Bool.not_eq_true', Bool.not_eq_false', Bool.not_eq_true, Bool.not_eq_false, Int.not_lt, Int.not_le, Nat.not_lt, Nat.not_le, Bool.not_true, Bool.not_false, Bool.true_eq_false, Bool.false_eq_true] at hc26
        refine vc_code_skip ?_
        refine vq_block ?_
        refine vq_then ?_
        refine vc_keep [(0, _), (1, _), (2, _), (7, _)] ⟨rfl, rfl, rfl, rfl, trivial⟩ ?_
        refine vc_region ?_
        refine vc_y rfl rfl (y_mv rfl) ?_
        refine vc_y rfl rfl (y_add rfl rfl rfl (by omega) (by omega)) ?_
        refine vc_y rfl rfl (y_as rfl) ?_
        refine vc_end ?_
        refine vq_again (j + 1) ⟨rfl, rfl, rfl, rfl, trivial⟩ st ?_ ?_
        · exact ⟨by omega, fun i hi => by
            rcases Nat.lt_or_ge i j with h | h
            · exact hall i h
            · obtain rfl : i = j := by omega
              assumption⟩
        · omega
    · intro hc20
      try simp only [decide_eq_true_eq, decide_eq_false_iff_not, Bool.not_eq_true', Bool.not_eq_false', Bool.not_eq_true, Bool.not_eq_false, Int.not_lt, Int.not_le, Nat.not_lt, Nat.not_le, Bool.not_true, Bool.not_false, Bool.true_eq_false, Bool.false_eq_true] at hc20
      have hno : ∀ x ∈ rm, x ≠ 10 := by
        intro x hx h10
        obtain ⟨i, hi, hix⟩ := List.getElem_of_mem hx
        have h := hall i (by omega)
        simp only [List.getD, List.getElem?_eq_getElem hi, Option.getD_some, hix, h10] at h
        exact h rfl
      refine vc_exit ?_
      refine vq_then_exit ?_
      refine vq_then_exit ?_
      refine vq_block_exit ?_
      refine vq_then ?_
      refine vc_keep [(0, _), (1, _), (2, _)] ⟨rfl, rfl, rfl, trivial⟩ ?_
      refine vc_seq ?_
      refine vc_region ?_
      refine vc_y rfl rfl (y_mv rfl) ?_
      refine vc_e (e_call [_] rfl rfl Try.call21 rfl (scan_eq l T hT e a r he _) ?_)
      rintro _ w ⟨cw, oa, ca, rfl, how⟩
      replace st := st.pushOwn cw how
      refine vc_y rfl rfl (y_mv rfl) ?_
      refine vc_y rfl rfl (y_ext rfl rfl) ?_
      refine vc_y rfl rfl (y_ext rfl rfl) ?_
      refine vc_y rfl rfl (y_ext rfl rfl) ?_
      refine vc_e (e_al (l := [_, _]) st rfl rfl Try.zeroValue27 rfl ?_)
      intro b10 w hb10 st
      refine vc_y rfl rfl (y_as rfl) ?_
      refine vc_y rfl rfl (y_as rfl) ?_
      first
      | refine vc_e (e_sts (vs := [_, _]) st 0 rfl rfl rfl rfl rfl Try.sizeOf27 rfl rfl (by first | (right; assumption) | (left; simp)) ?_)
      | refine vc_e (e_sts (vs := [_, _]) st 1 rfl rfl rfl rfl rfl Try.sizeOf27 rfl rfl (by first | (right; assumption) | (left; simp)) ?_)
      | refine vc_e (e_sts (vs := [_, _]) st 2 rfl rfl rfl rfl rfl Try.sizeOf27 rfl rfl (by first | (right; assumption) | (left; simp)) ?_)
      | refine vc_e (e_sts (vs := [_, _]) st 3 rfl rfl rfl rfl rfl Try.sizeOf27 rfl rfl (by first | (right; assumption) | (left; simp)) ?_)
      | refine vc_e (e_sts (vs := [_, _]) st 4 rfl rfl rfl rfl rfl Try.sizeOf27 rfl rfl (by first | (right; assumption) | (left; simp)) ?_)
      intro w st; dsimp only [setNth, wr] at st
      refine vc_end ?_
      refine vq_then ?_
      refine vc_keep [(0, _), (1, _), (2, _), (8, _), (9, _)] ⟨rfl, rfl, rfl, rfl, rfl, trivial⟩ ?_
      refine vc_seq ?_
      refine vc_seq ?_
      refine vc_region ?_
      refine vc_y rfl rfl (y_mv rfl) ?_
      refine vc_y rfl rfl (y_nei rfl rfl) ?_
      refine vc_e (e_mvb rfl rfl rfl ?_ ?_)
      · intro hg35
        try simp only [decide_eq_true_eq, decide_eq_false_iff_not, Bool.not_eq_true', Bool.not_eq_false', Bool.not_eq_true, Bool.not_eq_false, Int.not_lt, Int.not_le, Nat.not_lt, Nat.not_le, Bool.not_true, Bool.not_false, Bool.true_eq_false, Bool.false_eq_true] at hg35
        refine vc_e (e_skip rfl rfl ?_)
        refine vc_e (e_skip rfl rfl ?_)
        refine vc_y rfl rfl (y_pickt rfl rfl) ?_
        refine vc_y rfl rfl (y_mv rfl) ?_
        refine vc_e (e_skip rfl rfl ?_)
        refine vc_e (e_skip rfl rfl ?_)
        refine vc_e (e_skip rfl rfl ?_)
        refine vc_e (e_skip rfl rfl ?_)
        refine vc_y rfl rfl (y_pickt rfl rfl) ?_
        refine vc_end ?_
        refine vq_then ?_
        refine vc_keep [(0, _), (1, _), (2, _), (8, _), (44, _)] ⟨rfl, rfl, rfl, rfl, rfl, trivial⟩ ?_
        refine vc_ift rfl ?_
        refine vc_seq ?_
        refine vc_region ?_
        refine vc_y rfl rfl (y_as rfl) ?_
        refine vc_end ?_
        refine vq_then ?_
        refine vc_keep [(6, _)] ⟨rfl, trivial⟩ ?_
        refine vc_ret ?_
        refine vq_then_ret ?_
        refine vq_ret1 st (.inl rfl) Try.results5 (.tmp rfl) ?_
        refine ⟨_, rfl, ?_⟩
        refine ⟨?_, st.chg⟩
        first | rfl | (simp; done) | (simp [hs2]; done)
      · intro hg35
        try simp only [decide_eq_true_eq, decide_eq_false_iff_not, Bool.not_eq_true', Bool.not_eq_false', Bool.not_eq_true, Bool.not_eq_false, Int.not_lt, Int.not_le, Nat.not_lt, Nat.not_le, Bool.not_true, Bool.not_false, Bool.true_eq_false, Bool.false_eq_true] at hg35
        refine vc_y rfl rfl (y_mv rfl) ?_
        refine vc_y rfl rfl (y_lss rfl rfl) ?_
        refine vc_y rfl rfl (y_pickf rfl rfl) ?_
        refine vc_e (e_mvb rfl rfl rfl ?_ ?_)
        · intro hg39
          try simp only [decide_eq_true_eq, decide_eq_false_iff_not, Bool.not_eq_true', Bool.not_eq_false', Bool.not_eq_true, Bool.not_eq_false, Int.not_lt, Int.not_le, Nat.not_lt, Nat.not_le, Bool.not_true, Bool.not_false, Bool.true_eq_false, Bool.false_eq_true] at hg39
          refine vc_e (e_skip rfl rfl ?_)
          refine vc_e (e_skip rfl rfl ?_)
          refine vc_e (e_skip rfl rfl ?_)
          refine vc_e (e_skip rfl rfl ?_)
          refine vc_y rfl rfl (y_pickt rfl rfl) ?_
          refine vc_end ?_
          refine vq_then ?_
          refine vc_keep [(0, _), (1, _), (2, _), (8, _), (44, _)] ⟨rfl, rfl, rfl, rfl, rfl, trivial⟩ ?_
          refine vc_ift rfl ?_
          refine vc_seq ?_
          refine vc_region ?_
          refine vc_y rfl rfl (y_as rfl) ?_
          refine vc_end ?_
          refine vq_then ?_
          refine vc_keep [(6, _)] ⟨rfl, trivial⟩ ?_
          refine vc_ret ?_
          refine vq_then_ret ?_
          refine vq_ret1 st (.inl rfl) Try.results5 (.tmp rfl) ?_
          refine ⟨_, rfl, ?_⟩
          refine ⟨?_, st.chg⟩
          first | rfl | (simp; done) | (simp [hs2]; done)
        · intro hg39
          try simp only [decide_eq_true_eq, decide_eq_false_iff_not, Bool.not_eq_true', Bool.not_eq_false', Bool.not_eq_true, Bool.not_eq_false, Int.not_lt, Int.not_le, Nat.not_lt, Nat.not_le, Bool.not_true, Bool.not_false, Bool.true_eq_false, Bool.false_eq_true] at hg39
          refine vc_y rfl rfl (y_mv rfl) ?_
          refine vc_y rfl rfl (y_mv rfl) ?_
          refine vc_y rfl rfl (y_lensl rfl Try.underlying24) ?_
          refine vc_y rfl rfl (y_gtr rfl rfl) ?_
          refine vc_y rfl rfl (y_pickf rfl rfl) ?_
          refine vc_end ?_
          refine vq_then ?_
          refine vc_keep [(0, _), (1, _), (2, _), (8, _), (44, _)] ⟨rfl, rfl, rfl, rfl, rfl, trivial⟩ ?_
          refine vc_ifs rfl ?_ ?_
          · intro hc44
            try simp only [decide_eq_true_eq, decide_eq_false_iff_not, Bool.not_eq_true', Bool.not_eq_false', Bool.not_eq_true, Bool.not_eq_false, Int.not_lt, Int.not_le, Nat.not_lt, Nat.not_le, Bool.not_true, Bool.not_false, Bool.true_eq_false, Bool.false_eq_true] at hc44
            refine vc_seq ?_
            refine vc_region ?_
            refine vc_y rfl rfl (y_as rfl) ?_
            refine vc_end ?_
            refine vq_then ?_
            refine vc_keep [(6, _)] ⟨rfl, trivial⟩ ?_
            refine vc_ret ?_
            refine vq_then_ret ?_
            refine vq_ret1 st (.inl rfl) Try.results5 (.tmp rfl) ?_
            refine ⟨_, rfl, ?_⟩
            refine ⟨?_, st.chg⟩
            first | rfl | (simp; done) | (simp [hs2]; done)
          · intro hc44
            try simp only [decide_eq_true_eq, decide_eq_false_iff_not, Bool.not_eq_true', Bool.not_eq_false', Bool.not_eq_true, Bool.not_eq_false, Int.not_lt, Int.not_le, Nat.not_lt, Nat.not_le, Bool.not_true, Bool.not_false, Bool.true_eq_false, Bool.false_eq_true] at hc44
            have hok := scanRes_ok (s := l) (by rw [he]; dsimp only; omega)
            rw [hT] at hok
            obtain ⟨hl16, hsc⟩ := hok
            obtain ⟨n, rfl⟩ : ∃ n : Nat, k = (n : Int) := ⟨k.toNat, by omega⟩
            have hmlen : ([32, 9, 13, 47, 47] ++ rm ++ [10] : List UInt8).length = rm.length + 6 := by simp
            have hmlen2 : ([10] ++ ([32, 9, 13, 47, 47] ++ rm ++ [10]) : List UInt8).length = rm.length + 7 := by simp
            refine vc_code_skip ?_
            refine vq_then ?_
            refine vc_keep [(0, _), (1, _), (2, _), (8, _)] ⟨rfl, rfl, rfl, rfl, trivial⟩ ?_
            refine vc_seq ?_
            refine vc_region ?_
            refine vc_y rfl rfl (y_mv rfl) ?_
            refine vc_y rfl rfl (y_lens rfl Try.underlying9) ?_
            refine vc_y rfl rfl (y_as rfl) ?_
            refine vc_end ?_
            refine vq_then ?_
            refine vc_keep [(0, _), (1, _), (2, _), (8, _), (11, _)] ⟨rfl, rfl, rfl, rfl, rfl, trivial⟩ ?_
            refine vc_seq ?_
            refine vc_region ?_
            refine vc_y rfl rfl (y_mv rfl) ?_
            refine vc_y rfl rfl (y_cat rfl rfl (by simp; omega)) ?_
            refine vc_y rfl rfl (y_cat rfl rfl (by simp; omega)) ?_
            refine vc_y rfl rfl (y_as rfl) ?_
            refine vc_end ?_
            refine vq_then ?_
            refine vc_keep [(0, _), (1, _), (8, _), (11, _), (12, _)] ⟨rfl, rfl, rfl, rfl, rfl, trivial⟩ ?_
            refine vc_seq ?_
            refine vc_seq ?_
            refine vc_region ?_
            refine vc_y rfl rfl (y_mv rfl) ?_
            refine vc_y rfl rfl (y_mv rfl) ?_
            refine vc_y rfl rfl (y_lensl rfl Try.underlying24) ?_
            refine vc_y rfl rfl (y_lss rfl rfl) ?_
            refine vc_end ?_
            refine vq_then ?_
            refine vc_keep [(0, _), (1, _), (8, _), (11, _), (12, _), (53, _)] ⟨rfl, rfl, rfl, rfl, rfl, rfl, trivial⟩ ?_
            refine vc_ifs rfl ?_ ?_
            · intro hc53
              try simp only [decide_eq_true_eq, decide_eq_false_iff_not, Bool.not_eq_true', Bool.not_eq_false', Bool.not_eq_true, Bool.not_eq_false, Int.not_lt, Int.not_le, Nat.not_lt, Nat.not_le, Bool.not_true, Bool.not_false, Bool.true_eq_false, Bool.false_eq_true] at hc53
              obtain ⟨x, hx⟩ : ∃ x, T.drop n = x :: T.drop (n + 1) := ⟨T[n]'(by omega), List.drop_eq_getElem_cons (by omega)⟩
              have hxn : T[n]? = some x := by rw [← List.head?_drop, hx]; rfl
              have hxat := scan_at _ _ _ hsc x (List.mem_of_getElem? hxn)
              have hcell := toks_at hx
              obtain ⟨g, cap', e', _⟩ := own_form (st.res (i := 1) rfl) (by omega)
              simp only [Value.slice.injEq] at e'
              obtain ⟨rfl, -, rfl⟩ := e'
              refine vc_region ?_
              refine vc_y rfl rfl (y_mv rfl) ?_
              refine vc_y rfl rfl (y_mv rfl) ?_
              refine vc_y rfl rfl ((by first | exact y_ia0 (k := n) rfl rfl Try.underlying24 Try.sizeOf33 rfl (by omega) | exact y_ia (k := n) rfl rfl Try.underlying24 Try.sizeOf33 rfl (by omega))) ?_
              refine vc_y rfl rfl ((by first | exact y_faz (k := 3) rfl Try.underlying33 rfl rfl Try.sizeOf3 rfl | exact y_fa (k := 3) rfl Try.underlying33 rfl rfl Try.sizeOf3 rfl)) ?_
              refine vc_y rfl rfl ((by first | exact y_ldo st 1 rfl Try.isAgg3 rfl (hcell 3 _ rfl) | exact y_ld st 0 rfl Try.isAgg3 rfl rfl | exact y_ld st 1 rfl Try.isAgg3 rfl rfl | exact y_ld st 2 rfl Try.isAgg3 rfl rfl | exact y_ld st 3 rfl Try.isAgg3 rfl rfl | exact y_ld st 4 rfl Try.isAgg3 rfl rfl)) ?_
              refine vc_y rfl rfl (y_as rfl) ?_
              refine vc_end ?_
              refine vq_then ?_
              refine vc_keep [(0, _), (8, _), (11, _), (12, _)] ⟨rfl, rfl, rfl, rfl, trivial⟩ ?_
              refine vc_seq ?_
              refine vc_seq ?_
              refine vc_region ?_
              refine vc_y rfl rfl (y_mv rfl) ?_
              refine vc_y rfl rfl (y_lens rfl Try.underlying9) ?_
              refine vc_y rfl rfl (y_mv rfl) ?_
              refine vc_y rfl rfl (y_lens rfl Try.underlying9) ?_
              refine vc_y rfl rfl (y_add rfl rfl rfl (by omega) (by omega)) ?_
              refine vc_y rfl rfl (y_gtr rfl rfl) ?_
              refine vc_end ?_
              refine vq_then ?_
              refine vc_keep [(0, _), (8, _), (11, _), (12, _), (66, _)] ⟨rfl, rfl, rfl, rfl, rfl, trivial⟩ ?_
              refine vc_ifs rfl ?_ ?_
              · intro hc66
                try simp only [decide_eq_true_eq, decide_eq_false_iff_not, Bool.not_eq_true', Bool.not_eq_false', Bool.not_eq_true, Bool.not_eq_false, Int.not_lt, Int.not_le, Nat.not_lt, Nat.not_le, Bool.not_true, Bool.not_false, Bool.true_eq_false, Bool.false_eq_true] at hc66
                refine vc_seq ?_
                refine vc_region ?_
                refine vc_y rfl rfl (y_as rfl) ?_
                refine vc_end ?_
                refine vq_then ?_
                refine vc_keep [(6, _)] ⟨rfl, trivial⟩ ?_
                refine vc_ret ?_
                refine vq_then_ret ?_
                refine vq_ret1 st (.inl rfl) Try.results5 (.tmp rfl) ?_
                refine ⟨_, rfl, ?_⟩
                refine ⟨?_, st.chg⟩
                first | rfl | (simp; done) | (simp [hs2]; done)
              · intro hc66
                try simp only [decide_eq_true_eq, decide_eq_false_iff_not, Bool.not_eq_true', Bool.not_eq_false', Bool.not_eq_true, Bool.not_eq_false, Int.not_lt, Int.not_le, Nat.not_lt, Nat.not_le, Bool.not_true, Bool.not_false, Bool.true_eq_false, Bool.false_eq_true] at hc66
                refine vc_code_skip ?_
                refine vq_then ?_
                refine vc_keep [(0, _), (8, _), (11, _), (12, _)] ⟨rfl, rfl, rfl, rfl, trivial⟩ ?_
                refine vc_seq ?_
                refine vd_draw Try.mixed (.take 0 (.take 1 (.take 2 (.take 3 (.take 4 (.take 5 (.take 6 (.take 7 (.take 8 (.two 9 14 (.take 10 (.take 11 (.take 12 (.take 13 (.one 14 (.take 15 (.take 16 (.one 17 .done)))))))) (.one 9 (.take 10 (.take 11 (.take 12 (.take 13 (.take 15 (.take 16 (.one 17 .done)))))))))))))))))) (fun w => St _ _ _ w) st (by kernel_rfl) (by repeat (first | exact okQ_body | refine okQ_then ?_ | refine okQ_block ?_)) rfl (by kernel_rfl) ?_
                intro w cd; replace st := st.call0 cd; clear cd
                have hS := st
                obtain ⟨T', hT', hSN⟩ : ∃ T', _ = (T', 0, 0, 0) ∧ SameN T T' := by
                  first
                  | exact blanks_in (c := x.at_) (someBlanks rm) hno hsc (k := n) (by omega) (.inl ⟨by omega, fun t ht => by rw [hxn] at ht; cases ht; rfl, rfl⟩) (by simp [someBlanks]; simp at hc66; omega)
                  | exact blanks_in (c := l.length) (10 :: someBlanks rm) hno hsc (k := n) (by omega) (.inr ⟨by omega, rfl, rfl⟩) (by simp [someBlanks]; simp at hc66; omega)
                refine vd_take rfl rfl rfl hS (fun w st => y_mv rfl) ?_
                refine vd_take rfl rfl rfl hS (fun w st => y_mv rfl) ?_
                refine vd_take rfl rfl rfl hS (fun w st => y_slt (j := _) rfl rfl Try.underlying9 rfl (by omega)) ?_
                refine vd_take rfl rfl rfl hS (fun w st => y_mv rfl) ?_
                refine vd_take rfl rfl rfl hS (fun w st => y_cat rfl rfl (by simp; omega)) ?_
                refine vd_take rfl rfl rfl hS (fun w st => y_mv rfl) ?_
                refine vd_take rfl rfl rfl hS (fun w st => y_mv rfl) ?_
                refine vd_take rfl rfl rfl hS (fun w st => y_slf (i := _) rfl rfl Try.underlying9 rfl (by omega)) ?_
                refine vd_take rfl rfl rfl hS (fun w st => y_cat rfl rfl (by simp; omega)) ?_
                refine vd_two rfl rfl ?_ ?_
                ·
                  refine (e_call [_] rfl rfl Try.call21 rfl (scan_eq _ T' (by rw [List.append_assoc]; exact congrArg Prod.fst hT') 0 0 0 (by rw [List.append_assoc]; exact congrArg Prod.snd hT') _) ?_)
                  rintro _ w ⟨cw, ob, cb, rfl, how⟩
                  replace st := st.pushOwn cw how
                  refine vd_next (by first | exact st | exact st.drop (by repeat (first | exact List.Sublist.slnil | apply List.Sublist.cons_cons | apply List.Sublist.cons))) ?_; intro hS
                  refine vd_take rfl rfl rfl hS (fun w st => y_mv rfl) ?_
                  refine vd_take rfl rfl rfl hS (fun w st => y_ext rfl rfl) ?_
                  refine vd_take rfl rfl rfl hS (fun w st => y_ext rfl rfl) ?_
                  refine vd_take rfl rfl rfl hS (fun w st => y_ext rfl rfl) ?_
                  refine vd_do rfl (e_al (l := [_, _]) st rfl rfl Try.zeroValue27 rfl ?_)
                  intro b14 w hb14 st
                  refine vd_next (by first | exact st | exact st.drop (by repeat (first | exact List.Sublist.slnil | apply List.Sublist.cons_cons | apply List.Sublist.cons))) ?_; intro hS
                  refine vd_take rfl rfl rfl hS (fun w st => y_as rfl) ?_
                  refine vd_take rfl rfl rfl hS (fun w st => y_as rfl) ?_
                  first
                  | refine vd_do rfl (e_sts (vs := [_, _]) st 0 rfl rfl rfl rfl rfl Try.sizeOf27 rfl rfl (by first | (right; assumption) | (left; simp)) ?_)
                  | refine vd_do rfl (e_sts (vs := [_, _]) st 1 rfl rfl rfl rfl rfl Try.sizeOf27 rfl rfl (by first | (right; assumption) | (left; simp)) ?_)
                  | refine vd_do rfl (e_sts (vs := [_, _]) st 2 rfl rfl rfl rfl rfl Try.sizeOf27 rfl rfl (by first | (right; assumption) | (left; simp)) ?_)
                  | refine vd_do rfl (e_sts (vs := [_, _]) st 3 rfl rfl rfl rfl rfl Try.sizeOf27 rfl rfl (by first | (right; assumption) | (left; simp)) ?_)
                  | refine vd_do rfl (e_sts (vs := [_, _]) st 4 rfl rfl rfl rfl rfl Try.sizeOf27 rfl rfl (by first | (right; assumption) | (left; simp)) ?_)
                  intro w st; dsimp only [setNth, wr] at st
                  refine vd_next (by first | exact st | exact st.drop (by repeat (first | exact List.Sublist.slnil | apply List.Sublist.cons_cons | apply List.Sublist.cons))) ?_; intro hS
                  refine vd_end ?_
                  refine vq_then ?_
                  refine vc_keep [(8, _), (9, _), (13, _)] ⟨rfl, rfl, rfl, trivial⟩ ?_
                  refine vc_seq ?_
                  refine vc_region ?_
                  refine vc_y rfl rfl (y_mv rfl) ?_
                  refine vc_y rfl rfl (y_eqi rfl rfl) ?_
                  refine vc_e (e_mvb rfl rfl rfl ?_ ?_)
                  · intro hg83
                    try simp only [decide_eq_true_eq, decide_eq_false_iff_not, Bool.not_eq_true', Bool.not_eq_false', Bool.not_eq_true, Bool.not_eq_false, Int.not_lt, Int.not_le, Nat.not_lt, Nat.not_le, Bool.not_true, Bool.not_false, Bool.true_eq_false, Bool.false_eq_true] at hg83
                    have ra := isToks_own (A := T.map tvOf) (by rw [List.length_map, ← toksL_tv]; exact st.res (i := 3) rfl)
                    have rb := isToks_own (A := T'.map tvOf) (by rw [List.length_map, ← toksL_tv]; first | exact st.res (i := 1) rfl | exact st.res (i := 0) rfl)
                    have hsame := fun c1 c2 => rsame_any (T.map tvOf) (T'.map tvOf) _ _ c1 c2 false w ra rb (by rw [List.length_map]; unfold maxLen; omega)
                    rw [List.length_map, List.length_map] at hsame
                    refine vc_y rfl rfl (y_mv rfl) ?_
                    refine vc_y rfl rfl (y_mv rfl) ?_
                    refine vc_e (e_call [_, _, _] rfl rfl Try.call23 rfl (hsame _ _) ?_)
                    rintro _ w ⟨⟨rr, rfl, hs2⟩, cw⟩
                    obtain rfl : rr = true := hs2.2 (sameP_of hSN)
                    replace st := st.call0 cw
                    refine vc_y rfl rfl (y_pickt rfl rfl) ?_
                    refine vc_y rfl rfl (y_as rfl) ?_
                    refine vc_end ?_
                    refine vq_then ?_
                    refine vc_keep [(6, _)] ⟨rfl, trivial⟩ ?_
                    refine vc_ret ?_
                    refine vq_ret1 st (.inl rfl) Try.results5 (.tmp rfl) ?_
                    refine ⟨_, rfl, ?_⟩
                    refine ⟨?_, st.chg⟩
                    first | rfl | (simp; done) | (simp [hs2]; done)
                  · intro hg83
                    (exfalso; simp at hg83)
                ·
                  refine (e_al (l := [_, _]) st rfl rfl Try.zeroValue27 rfl ?_)
                  intro b14 w hb14 st
                  refine vd_next (by first | exact st | exact st.drop (by repeat (first | exact List.Sublist.slnil | apply List.Sublist.cons_cons | apply List.Sublist.cons))) ?_; intro hS
                  refine vd_do rfl (e_call [_] rfl rfl Try.call21 rfl (scan_eq _ T' (by rw [List.append_assoc]; exact congrArg Prod.fst hT') 0 0 0 (by rw [List.append_assoc]; exact congrArg Prod.snd hT') _) ?_)
                  rintro _ w ⟨cw, ob, cb, rfl, how⟩
                  replace st := st.pushOwn cw how
                  refine vd_next (by first | exact st | exact st.drop (by repeat (first | exact List.Sublist.slnil | apply List.Sublist.cons_cons | apply List.Sublist.cons))) ?_; intro hS
                  refine vd_take rfl rfl rfl hS (fun w st => y_mv rfl) ?_
                  refine vd_take rfl rfl rfl hS (fun w st => y_ext rfl rfl) ?_
                  refine vd_take rfl rfl rfl hS (fun w st => y_ext rfl rfl) ?_
                  refine vd_take rfl rfl rfl hS (fun w st => y_ext rfl rfl) ?_
                  refine vd_take rfl rfl rfl hS (fun w st => y_as rfl) ?_
                  refine vd_take rfl rfl rfl hS (fun w st => y_as rfl) ?_
                  first
                  | refine vd_do rfl (e_sts (vs := [_, _]) st 0 rfl rfl rfl rfl rfl Try.sizeOf27 rfl rfl (by first | (right; assumption) | (left; simp)) ?_)
                  | refine vd_do rfl (e_sts (vs := [_, _]) st 1 rfl rfl rfl rfl rfl Try.sizeOf27 rfl rfl (by first | (right; assumption) | (left; simp)) ?_)
                  | refine vd_do rfl (e_sts (vs := [_, _]) st 2 rfl rfl rfl rfl rfl Try.sizeOf27 rfl rfl (by first | (right; assumption) | (left; simp)) ?_)
                  | refine vd_do rfl (e_sts (vs := [_, _]) st 3 rfl rfl rfl rfl rfl Try.sizeOf27 rfl rfl (by first | (right; assumption) | (left; simp)) ?_)
                  | refine vd_do rfl (e_sts (vs := [_, _]) st 4 rfl rfl rfl rfl rfl Try.sizeOf27 rfl rfl (by first | (right; assumption) | (left; simp)) ?_)
                  intro w st; dsimp only [setNth, wr] at st
                  refine vd_next (by first | exact st | exact st.drop (by repeat (first | exact List.Sublist.slnil | apply List.Sublist.cons_cons | apply List.Sublist.cons))) ?_; intro hS
                  refine vd_end ?_
                  refine vq_then ?_
                  refine vc_keep [(8, _), (9, _), (13, _)] ⟨rfl, rfl, rfl, trivial⟩ ?_
                  refine vc_seq ?_
                  refine vc_region ?_
                  refine vc_y rfl rfl (y_mv rfl) ?_
                  refine vc_y rfl rfl (y_eqi rfl rfl) ?_
                  refine vc_e (e_mvb rfl rfl rfl ?_ ?_)
                  · intro hg83
                    try simp only [decide_eq_true_eq, decide_eq_false_iff_not, Bool.not_eq_true', Bool.not_eq_false', Bool.not_eq_true, Bool.not_eq_false, Int.not_lt, Int.not_le, Nat.not_lt, Nat.not_le, Bool.not_true, Bool.not_false, Bool.true_eq_false, Bool.false_eq_true] at hg83
                    have ra := isToks_own (A := T.map tvOf) (by rw [List.length_map, ← toksL_tv]; exact st.res (i := 3) rfl)
                    have rb := isToks_own (A := T'.map tvOf) (by rw [List.length_map, ← toksL_tv]; first | exact st.res (i := 1) rfl | exact st.res (i := 0) rfl)
                    have hsame := fun c1 c2 => rsame_any (T.map tvOf) (T'.map tvOf) _ _ c1 c2 false w ra rb (by rw [List.length_map]; unfold maxLen; omega)
                    rw [List.length_map, List.length_map] at hsame
                    refine vc_y rfl rfl (y_mv rfl) ?_
                    refine vc_y rfl rfl (y_mv rfl) ?_
                    refine vc_e (e_call [_, _, _] rfl rfl Try.call23 rfl (hsame _ _) ?_)
                    rintro _ w ⟨⟨rr, rfl, hs2⟩, cw⟩
                    obtain rfl : rr = true := hs2.2 (sameP_of hSN)
                    replace st := st.call0 cw
                    refine vc_y rfl rfl (y_pickt rfl rfl) ?_
                    refine vc_y rfl rfl (y_as rfl) ?_
                    refine vc_end ?_
                    refine vq_then ?_
                    refine vc_keep [(6, _)] ⟨rfl, trivial⟩ ?_
                    refine vc_ret ?_
                    refine vq_ret1 st (.inl rfl) Try.results5 (.tmp rfl) ?_
                    refine ⟨_, rfl, ?_⟩
                    refine ⟨?_, st.chg⟩
                    first | rfl | (simp; done) | (simp [hs2]; done)
                  · intro hg83
                    (exfalso; simp at hg83)
            · intro hc53
              try simp only [decide_eq_true_eq, decide_eq_false_iff_not, Bool.not_eq_true', Bool.not_eq_false', Bool.not_eq_true, Bool.not_eq_false, Int.not_lt, Int.not_le, Nat.not_lt, Nat.not_le, Bool.not_true, Bool.not_false, Bool.true_eq_false, Bool.false_eq_true] at hc53
              refine vc_region ?_
              refine vc_y rfl rfl (y_mv rfl) ?_
              refine vc_y rfl rfl (y_cat rfl rfl (by simp; omega)) ?_
              refine vc_y rfl rfl (y_as rfl) ?_
              refine vc_end ?_
              refine vq_then ?_
              refine vc_keep [(0, _), (8, _), (11, _), (12, _)] ⟨rfl, rfl, rfl, rfl, trivial⟩ ?_
              refine vc_seq ?_
              refine vc_seq ?_
              refine vc_region ?_
              refine vc_y rfl rfl (y_mv rfl) ?_
              refine vc_y rfl rfl (y_lens rfl Try.underlying9) ?_
              refine vc_y rfl rfl (y_mv rfl) ?_
              refine vc_y rfl rfl (y_lens rfl Try.underlying9) ?_
              refine vc_y rfl rfl (y_add rfl rfl rfl (by omega) (by omega)) ?_
              refine vc_y rfl rfl (y_gtr rfl rfl) ?_
              refine vc_end ?_
              refine vq_then ?_
              refine vc_keep [(0, _), (8, _), (11, _), (12, _), (66, _)] ⟨rfl, rfl, rfl, rfl, rfl, trivial⟩ ?_
              refine vc_ifs rfl ?_ ?_
              · intro hc66
                try simp only [decide_eq_true_eq, decide_eq_false_iff_not, Bool.not_eq_true', Bool.not_eq_false', Bool.not_eq_true, Bool.not_eq_false, Int.not_lt, Int.not_le, Nat.not_lt, Nat.not_le, Bool.not_true, Bool.not_false, Bool.true_eq_false, Bool.false_eq_true] at hc66
                refine vc_seq ?_
                refine vc_region ?_
                refine vc_y rfl rfl (y_as rfl) ?_
                refine vc_end ?_
                refine vq_then ?_
                refine vc_keep [(6, _)] ⟨rfl, trivial⟩ ?_
                refine vc_ret ?_
                refine vq_then_ret ?_
                refine vq_ret1 st (.inl rfl) Try.results5 (.tmp rfl) ?_
                refine ⟨_, rfl, ?_⟩
                refine ⟨?_, st.chg⟩
                first | rfl | (simp; done) | (simp [hs2]; done)
              · intro hc66
                try simp only [decide_eq_true_eq, decide_eq_false_iff_not, Bool.not_eq_true', Bool.not_eq_false', Bool.not_eq_true, Bool.not_eq_false, Int.not_lt, Int.not_le, Nat.not_lt, Nat.not_le, Bool.not_true, Bool.not_false, Bool.true_eq_false, Bool.false_eq_true] at hc66
                refine vc_code_skip ?_
                refine vq_then ?_
                refine vc_keep [(0, _), (8, _), (11, _), (12, _)] ⟨rfl, rfl, rfl, rfl, trivial⟩ ?_
                refine vc_seq ?_
                refine vd_draw Try.mixed (.take 0 (.take 1 (.take 2 (.take 3 (.take 4 (.take 5 (.take 6 (.take 7 (.take 8 (.two 9 14 (.take 10 (.take 11 (.take 12 (.take 13 (.one 14 (.take 15 (.take 16 (.one 17 .done)))))))) (.one 9 (.take 10 (.take 11 (.take 12 (.take 13 (.take 15 (.take 16 (.one 17 .done)))))))))))))))))) (fun w => St _ _ _ w) st (by kernel_rfl) (by repeat (first | exact okQ_body | refine okQ_then ?_ | refine okQ_block ?_)) rfl (by kernel_rfl) ?_
                intro w cd; replace st := st.call0 cd; clear cd
                have hS := st
                obtain ⟨T', hT', hSN⟩ : ∃ T', _ = (T', 0, 0, 0) ∧ SameN T T' := by
                  first
                  | exact blanks_in (c := x.at_) (someBlanks rm) hno hsc (k := n) (by omega) (.inl ⟨by omega, fun t ht => by rw [hxn] at ht; cases ht; rfl, rfl⟩) (by simp [someBlanks]; simp at hc66; omega)
                  | exact blanks_in (c := l.length) (10 :: someBlanks rm) hno hsc (k := n) (by omega) (.inr ⟨by omega, rfl, rfl⟩) (by simp [someBlanks]; simp at hc66; omega)
                refine vd_take rfl rfl rfl hS (fun w st => y_mv rfl) ?_
                refine vd_take rfl rfl rfl hS (fun w st => y_mv rfl) ?_
                refine vd_take rfl rfl rfl hS (fun w st => y_slt (j := _) rfl rfl Try.underlying9 rfl (by omega)) ?_
                refine vd_take rfl rfl rfl hS (fun w st => y_mv rfl) ?_
                refine vd_take rfl rfl rfl hS (fun w st => y_cat rfl rfl (by simp; omega)) ?_
                refine vd_take rfl rfl rfl hS (fun w st => y_mv rfl) ?_
                refine vd_take rfl rfl rfl hS (fun w st => y_mv rfl) ?_
                refine vd_take rfl rfl rfl hS (fun w st => y_slf (i := _) rfl rfl Try.underlying9 rfl (by omega)) ?_
                refine vd_take rfl rfl rfl hS (fun w st => y_cat rfl rfl (by simp; omega)) ?_
                refine vd_two rfl rfl ?_ ?_
                ·
                  refine (e_call [_] rfl rfl Try.call21 rfl (scan_eq _ T' (by rw [List.append_assoc]; exact congrArg Prod.fst hT') 0 0 0 (by rw [List.append_assoc]; exact congrArg Prod.snd hT') _) ?_)
                  rintro _ w ⟨cw, ob, cb, rfl, how⟩
                  replace st := st.pushOwn cw how
                  refine vd_next (by first | exact st | exact st.drop (by repeat (first | exact List.Sublist.slnil | apply List.Sublist.cons_cons | apply List.Sublist.cons))) ?_; intro hS
                  refine vd_take rfl rfl rfl hS (fun w st => y_mv rfl) ?_
                  refine vd_take rfl rfl rfl hS (fun w st => y_ext rfl rfl) ?_
                  refine vd_take rfl rfl rfl hS (fun w st => y_ext rfl rfl) ?_
                  refine vd_take rfl rfl rfl hS (fun w st => y_ext rfl rfl) ?_
                  refine vd_do rfl (e_al (l := [_, _]) st rfl rfl Try.zeroValue27 rfl ?_)
                  intro b14 w hb14 st
                  refine vd_next (by first | exact st | exact st.drop (by repeat (first | exact List.Sublist.slnil | apply List.Sublist.cons_cons | apply List.Sublist.cons))) ?_; intro hS
                  refine vd_take rfl rfl rfl hS (fun w st => y_as rfl) ?_
                  refine vd_take rfl rfl rfl hS (fun w st => y_as rfl) ?_
                  first
                  | refine vd_do rfl (e_sts (vs := [_, _]) st 0 rfl rfl rfl rfl rfl Try.sizeOf27 rfl rfl (by first | (right; assumption) | (left; simp)) ?_)
                  | refine vd_do rfl (e_sts (vs := [_, _]) st 1 rfl rfl rfl rfl rfl Try.sizeOf27 rfl rfl (by first | (right; assumption) | (left; simp)) ?_)
                  | refine vd_do rfl (e_sts (vs := [_, _]) st 2 rfl rfl rfl rfl rfl Try.sizeOf27 rfl rfl (by first | (right; assumption) | (left; simp)) ?_)
                  | refine vd_do rfl (e_sts (vs := [_, _]) st 3 rfl rfl rfl rfl rfl Try.sizeOf27 rfl rfl (by first | (right; assumption) | (left; simp)) ?_)
                  | refine vd_do rfl (e_sts (vs := [_, _]) st 4 rfl rfl rfl rfl rfl Try.sizeOf27 rfl rfl (by first | (right; assumption) | (left; simp)) ?_)
                  intro w st; dsimp only [setNth, wr] at st
                  refine vd_next (by first | exact st | exact st.drop (by repeat (first | exact List.Sublist.slnil | apply List.Sublist.cons_cons | apply List.Sublist.cons))) ?_; intro hS
                  refine vd_end ?_
                  refine vq_then ?_
                  refine vc_keep [(8, _), (9, _), (13, _)] ⟨rfl, rfl, rfl, trivial⟩ ?_
                  refine vc_seq ?_
                  refine vc_region ?_
                  refine vc_y rfl rfl (y_mv rfl) ?_
                  refine vc_y rfl rfl (y_eqi rfl rfl) ?_
                  refine vc_e (e_mvb rfl rfl rfl ?_ ?_)
                  · intro hg83
                    try simp only [decide_eq_true_eq, decide_eq_false_iff_not, Bool.not_eq_true', Bool.not_eq_false', Bool.not_eq_true, Bool.not_eq_false, Int.not_lt, Int.not_le, Nat.not_lt, Nat.not_le, Bool.not_true, Bool.not_false, Bool.true_eq_false, Bool.false_eq_true] at hg83
                    have ra := isToks_own (A := T.map tvOf) (by rw [List.length_map, ← toksL_tv]; exact st.res (i := 3) rfl)
                    have rb := isToks_own (A := T'.map tvOf) (by rw [List.length_map, ← toksL_tv]; first | exact st.res (i := 1) rfl | exact st.res (i := 0) rfl)
                    have hsame := fun c1 c2 => rsame_any (T.map tvOf) (T'.map tvOf) _ _ c1 c2 false w ra rb (by rw [List.length_map]; unfold maxLen; omega)
                    rw [List.length_map, List.length_map] at hsame
                    refine vc_y rfl rfl (y_mv rfl) ?_
                    refine vc_y rfl rfl (y_mv rfl) ?_
                    refine vc_e (e_call [_, _, _] rfl rfl Try.call23 rfl (hsame _ _) ?_)
                    rintro _ w ⟨⟨rr, rfl, hs2⟩, cw⟩
                    obtain rfl : rr = true := hs2.2 (sameP_of hSN)
                    replace st := st.call0 cw
                    refine vc_y rfl rfl (y_pickt rfl rfl) ?_
                    refine vc_y rfl rfl (y_as rfl) ?_
                    refine vc_end ?_
                    refine vq_then ?_
                    refine vc_keep [(6, _)] ⟨rfl, trivial⟩ ?_
                    refine vc_ret ?_
                    refine vq_ret1 st (.inl rfl) Try.results5 (.tmp rfl) ?_
                    refine ⟨_, rfl, ?_⟩
                    refine ⟨?_, st.chg⟩
                    first | rfl | (simp; done) | (simp [hs2]; done)
                  · intro hg83
                    (exfalso; simp at hg83)
                ·
                  refine (e_al (l := [_, _]) st rfl rfl Try.zeroValue27 rfl ?_)
                  intro b14 w hb14 st
                  refine vd_next (by first | exact st | exact st.drop (by repeat (first | exact List.Sublist.slnil | apply List.Sublist.cons_cons | apply List.Sublist.cons))) ?_; intro hS
                  refine vd_do rfl (e_call [_] rfl rfl Try.call21 rfl (scan_eq _ T' (by rw [List.append_assoc]; exact congrArg Prod.fst hT') 0 0 0 (by rw [List.append_assoc]; exact congrArg Prod.snd hT') _) ?_)
                  rintro _ w ⟨cw, ob, cb, rfl, how⟩
                  replace st := st.pushOwn cw how
                  refine vd_next (by first | exact st | exact st.drop (by repeat (first | exact List.Sublist.slnil | apply List.Sublist.cons_cons | apply List.Sublist.cons))) ?_; intro hS
                  refine vd_take rfl rfl rfl hS (fun w st => y_mv rfl) ?_
                  refine vd_take rfl rfl rfl hS (fun w st => y_ext rfl rfl) ?_
                  refine vd_take rfl rfl rfl hS (fun w st => y_ext rfl rfl) ?_
                  refine vd_take rfl rfl rfl hS (fun w st => y_ext rfl rfl) ?_
                  refine vd_take rfl rfl rfl hS (fun w st => y_as rfl) ?_
                  refine vd_take rfl rfl rfl hS (fun w st => y_as rfl) ?_
                  first
                  | refine vd_do rfl (e_sts (vs := [_, _]) st 0 rfl rfl rfl rfl rfl Try.sizeOf27 rfl rfl (by first | (right; assumption) | (left; simp)) ?_)
                  | refine vd_do rfl (e_sts (vs := [_, _]) st 1 rfl rfl rfl rfl rfl Try.sizeOf27 rfl rfl (by first | (right; assumption) | (left; simp)) ?_)
                  | refine vd_do rfl (e_sts (vs := [_, _]) st 2 rfl rfl rfl rfl rfl Try.sizeOf27 rfl rfl (by first | (right; assumption) | (left; simp)) ?_)
                  | refine vd_do rfl (e_sts (vs := [_, _]) st 3 rfl rfl rfl rfl rfl Try.sizeOf27 rfl rfl (by first | (right; assumption) | (left; simp)) ?_)
                  | refine vd_do rfl (e_sts (vs := [_, _]) st 4 rfl rfl rfl rfl rfl Try.sizeOf27 rfl rfl (by first | (right; assumption) | (left; simp)) ?_)
                  intro w st; dsimp only [setNth, wr] at st
                  refine vd_next (by first | exact st | exact st.drop (by repeat (first | exact List.Sublist.slnil | apply List.Sublist.cons_cons | apply List.Sublist.cons))) ?_; intro hS
                  refine vd_end ?_
                  refine vq_then ?_
                  refine vc_keep [(8, _), (9, _), (13, _)] ⟨rfl, rfl, rfl, trivial⟩ ?_
                  refine vc_seq ?_
                  refine vc_region ?_
                  refine vc_y rfl rfl (y_mv rfl) ?_
                  refine vc_y rfl rfl (y_eqi rfl rfl) ?_
                  refine vc_e (e_mvb rfl rfl rfl ?_ ?_)
                  · intro hg83
                    try simp only [decide_eq_true_eq, decide_eq_false_iff_not, Bool.not_eq_true', Bool.not_eq_false', Bool.not_eq_true, Bool.not_eq_false, Int.not_lt, Int.not_le, Nat.not_lt, Nat.not_le, Bool.not_true, Bool.not_false, Bool.true_eq_false, Bool.false_eq_true] at hg83
                    have ra := isToks_own (A := T.map tvOf) (by rw [List.length_map, ← toksL_tv]; exact st.res (i := 3) rfl)
                    have rb := isToks_own (A := T'.map tvOf) (by rw [List.length_map, ← toksL_tv]; first | exact st.res (i := 1) rfl | exact st.res (i := 0) rfl)
                    have hsame := fun c1 c2 => rsame_any (T.map tvOf) (T'.map tvOf) _ _ c1 c2 false w ra rb (by rw [List.length_map]; unfold maxLen; omega)
                    rw [List.length_map, List.length_map] at hsame
                    refine vc_y rfl rfl (y_mv rfl) ?_
                    refine vc_y rfl rfl (y_mv rfl) ?_
                    refine vc_e (e_call [_, _, _] rfl rfl Try.call23 rfl (hsame _ _) ?_)
                    rintro _ w ⟨⟨rr, rfl, hs2⟩, cw⟩
                    obtain rfl : rr = true := hs2.2 (sameP_of hSN)
                    replace st := st.call0 cw
                    refine vc_y rfl rfl (y_pickt rfl rfl) ?_
                    refine vc_y rfl rfl (y_as rfl) ?_
                    refine vc_end ?_
                    refine vq_then ?_
                    refine vc_keep [(6, _)] ⟨rfl, trivial⟩ ?_
                    refine vc_ret ?_
                    refine vq_ret1 st (.inl rfl) Try.results5 (.tmp rfl) ?_
                    refine ⟨_, rfl, ?_⟩
                    refine ⟨?_, st.chg⟩
                    first | rfl | (simp; done) | (simp [hs2]; done)
                  · intro hg83
                    (exfalso; simp at hg83)

theorem own5 : ownKnob Try.prog.godebug = none := by kernel_rfl
set_option maxRecDepth 100000 in
theorem liftedLexerBlanks (os : Os) (started : os.Started) (H : Type) (enc : TypeId × Value → H) (F : Stop.Interp) :
    ReturnsInHanded {} Try.checked os 5 .any ((Rows.OpenSpec.upto Rows.lexerBlanksSpec).pre6 enc Try.prog Try.f5 Rows.lexerBlanksUptoRow.domain false) (((Rows.OpenSpec.upto Rows.lexerBlanksSpec).at F).post enc Try.prog Try.f5 false true false false) := by
  refine returnsInHanded_of_cond (C := Try.checked) (s := Rows.OpenSpec.upto Rows.lexerBlanksSpec) (k := Rows.uptoSmall) rfl own5 started (by kernel_rfl) Try.func5
    (OpenSpec.witness (enc := enc) (C := Try.checked) (s := Rows.OpenSpec.upto Rows.lexerBlanksSpec) (k := Rows.uptoSmall) rfl false ⟨#[], #[.string ⟨#[]⟩, .int .i64 0, .string ⟨#[]⟩], []⟩ 8 (by kernel_rfl) (by kernel_rfl) (by kernel_rfl)
      (x := ([.lit (.string []), .lit (.int .i64 0), .lit (.string [])], [], [])) (by kernel_rfl) rfl (by kernel_rfl)) ?_
  intro W base args ds gs before hval0 hW _ hk _
  have hval : ∀ (j : Nat) t v, Try.f5.params[j]? = some t → args[j]? = some v → Value.okWide Try.prog W .any base t v := hval0
  have hW' := hW
  obtain ⟨p, q, hA0, hV, rfl, hfz, hnd⟩ := hW
  have hA : DataW.TrodAll enc Try.prog W 0 (fun _ => true) true Try.f5.params.toList args.toList ds p := hA0
  rw [Try.params5] at hA hval
  obtain ⟨v0, vs0, d0, ds0, p0, q0, hargs, rfl, rfl, h0, r0⟩ := trodAll_cons hA
  obtain ⟨v1, vs1, d1, ds1, p1, q1, rfl, rfl, rfl, h1, r1⟩ := trodAll_cons r0
  obtain ⟨v2, vs2, d2, ds2, p2, q2, rfl, rfl, rfl, h2, r2⟩ := trodAll_cons r1
  obtain ⟨rfl, rfl, rfl⟩ := trodAll_nil r2
  obtain rfl : args = #[v0, v1, v2] := by cases args; simp_all
  obtain ⟨rfl, rfl⟩ := trodVars_none hV
  obtain ⟨a0, rfl, rfl, rfl, w0⟩ := open_string Try.underlying9 (hval 0 9 v0 rfl rfl) h0
  obtain ⟨a1, rfl, rfl, rfl, w1⟩ := open_int Try.underlying3 (hval 1 3 v1 rfl rfl) h1
  obtain ⟨a2, rfl, rfl, rfl, w2⟩ := open_string Try.underlying9 (hval 2 9 v2 rfl rfl) h2
  clear hA0 hval0
  have hsmall : a0.data.toList.length + 0 + a2.data.toList.length ≤ 1048576 := by
    have h := of_decide_eq_true hk
    simp only [List.cons_append, List.nil_append, Rows.uptoBulkAll, Rows.uptoBulk] at h
    omega
  have hwalk := lawLexerBlanks a0.data.toList w0 a1 w1 a2.data.toList w2 hsmall W
  refine Calls.mono hwalk fun e W' ⟨u, he, hu, hc⟩ => ?_
  subst he
  subst hu
  have bel := hc.below
  exact ⟨_, rfl, _, _, _, [], _, [], hW', trodAll_mk1 (shut_bool Try.underlying4 _), (trodAll_cons_mk (shut_string Try.underlying9 w0) (trodAll_cons_mk (shut_int Try.underlying3 w1) (trodAll_cons_mk (shut_string Try.underlying9 w2) trodAll_mk0))), rfl, bel.frame _, fun h => by cases h⟩
theorem overLexerBlanks : Rows.lexerBlanksUptoRow.holds Try.pinned (Rows.OpenSpec.upto Rows.lexerBlanksSpec) :=
  OpenClaim.holds_of_cond 5 Try.f5 rfl rfl rfl rfl rfl rfl rfl ⟨rfl, rfl, rfl, rfl, rfl⟩ rfl rfl rfl rfl rfl (by kernel_rfl) Try.func5 (by kernel_rfl)
    (of_decide_eq_true (by kernel_rfl)) (by unfold Func.isWrapper; first | (rw [if_pos (by decide +kernel)]; kernel_rfl) | (rw [if_neg (by decide +kernel)]; exact ⟨rfl, rfl⟩))
    (fun os started H enc _ F => liftedLexerBlanks os started H enc F)
theorem provedLexerBlanks : Rows.LexerBlanksUptoSaid := overLexerBlanks

end Go.Proofs.Ytakepmhgmgpkkaa
