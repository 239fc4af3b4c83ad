/- A part of the proof: contracts of functions and plain laws; each theorem says its own conditions. -/
import Derived.Test.YtakepmhgmgpkkaaDoorG
import Derived.Test.YtakepmhgmgpkkaaDoorSxApp
namespace Go.Proofs.YtakepmhgmgpkkaaDoor
open Go.RowKit Sx LexS
set_option linter.unusedVariables false
set_option linter.unusedSimpArgs false
theorem Tryd.info33 : Tryd.prog.info? 33 = some Tryd.t33 := by kernel_rfl
def toksL (l : List Tok) : List Value := l.flatMap tokL
theorem toksL_snoc (l : List Tok) (t : Tok) : toksL (l ++ [t]) = toksL l ++ tokL t := by simp [toksL]
def NxRel (s : List UInt8) (i : Nat) (k : Int) (t : List UInt8) (wd a : Int) (ok : Bool) (j fa fr : Int) : Prop :=
  (ok = true ∧ ∃ x : Tok, i + skip (s.drop i) < s.length ∧ tokAt (s.drop (i + skip (s.drop i))) (i + skip (s.drop i)) = .tok x ∧ k = x.kind ∧ t = x.text ∧ wd = x.word ∧ a = x.at_ ∧ j = ((i + skip (s.drop i) + x.text.length : Nat) : Int) ∧ fa = 0 ∧ fr = 0) ∨
  (ok = false ∧ s.length ≤ i + skip (s.drop i) ∧ fa = 0 ∧ fr = 0) ∨
  (ok = false ∧ ∃ rule p : Nat, i + skip (s.drop i) < s.length ∧ tokAt (s.drop (i + skip (s.drop i))) (i + skip (s.drop i)) = .bad rule p ∧ fa = p ∧ fr = rule)
theorem nx_flat {b : Nat} {s : List UInt8} {i : Nat} {v : Value} {w' : World} (h : NxPost b s i v w') :
    ∃ k t wd a ok j fa fr, v = .tuple [.agg (tok4 k t wd a).toArray, .bool ok].toArray ∧ w'.heap[b]? = some (scn s j fa fr) ∧ NxRel s i k t wd a ok j fa fr := by
  unfold NxPost at h
  split at h
  · rename_i hle
    obtain ⟨h1, j, h2⟩ := h
    exact ⟨0, [], 0, 0, false, j, 0, 0, h1, h2, .inr (.inl ⟨rfl, hle, rfl, rfl⟩)⟩
  · rename_i hlt
    split at h
    · rename_i x hx
      obtain ⟨h1, h2⟩ := h
      exact ⟨_, _, _, _, true, _, 0, 0, h1, h2, .inl ⟨rfl, x, by omega, hx, rfl, rfl, rfl, rfl, rfl, rfl, rfl⟩⟩
    · rename_i rule p hx
      obtain ⟨h1, j, h2⟩ := h
      exact ⟨0, [], 0, 0, false, j, _, _, h1, h2, .inr (.inr ⟨rfl, rule, p, by omega, hx, rfl, rfl⟩)⟩
/-- what 'Scan' hands back -/
def ScanPost (s : List UInt8) (w : World) (v : Value) (w' : World) : Prop :=
  Chg [] w w' ∧ ∃ oa cap, v = .tuple [.slice oa (scanRes s).1.length cap, .int .i64 ((scanRes s).2.1 : Int), .agg [.int .i64 ((scanRes s).2.2.1 : Int), .int .i64 ((scanRes s).2.2.2 : Int)].toArray].toArray ∧
    w'.ownsRow w.heap.size 33 4 (.slice oa (scanRes s).1.length cap) (scanRes s).1.length (toksL (scanRes s).1)
theorem Chg.nil_of {w w' : World} {M : List Nat} (h : Chg M w w') (hM : M = []) : Chg [] w w' := hM ▸ h
theorem len_le {s : List UInt8} {i : Nat} (h : skip (s.drop i) < (s.drop i).length ↔ i + skip (s.drop i) < s.length) : True := trivial

set_option maxHeartbeats 1000000 in
theorem scan_any (s : List UInt8) (w : World) : Ret Tryd.prog 5 [str s] w (ScanPost s w) := by
  refine ret_of [_] Tryd.func5 rfl Tryd.ntmps5 rfl ?_
  have st := St.init w []
  refine vc_seq ?_
  refine vc_region ?_
  refine vc_y rfl rfl (y_as rfl) ?_
  refine vc_y rfl rfl (y_as rfl) ?_
  refine vc_e (e_al (l := [_, _]) st rfl rfl Tryd.zeroValue27 rfl ?_)
  intro b4 w hb4 st
  refine vc_end ?_
  refine vq_then ?_
  refine vc_keep [(0, _), (4, _)] ⟨rfl, rfl, trivial⟩ ?_
  refine vc_seq ?_
  refine vc_seq ?_
  refine vc_region ?_
  refine vc_y rfl rfl (y_mv rfl) ?_
  refine vc_y rfl rfl (y_lens rfl Tryd.underlying9) ?_
  refine vc_y rfl rfl (y_gtr rfl rfl) ?_
  refine vc_end ?_
  refine vq_then ?_
  refine vc_keep [(0, _), (4, _), (11, _)] ⟨rfl, rfl, rfl, trivial⟩ ?_
  refine vc_ifs rfl ?_ ?_
  · intro hc11
    try simp only [decide_eq_true_eq, decide_eq_false_iff_not, Bool.not_eq_true', Bool.not_eq_false', Bool.not_eq_true, Bool.not_eq_false, Int.not_lt, Int.not_le, Nat.not_lt, Nat.not_le, Bool.not_true, Bool.not_false, Bool.true_eq_false, Bool.false_eq_true] at hc11
    refine vc_seq ?_
    refine vc_region ?_
    refine vc_y rfl rfl (y_bld (.agg #[_, _]) [] rfl (fun w => by simp [Instr.build, go_sem] <;> repeat' constructor)) ?_
    refine vc_y rfl rfl (y_as rfl) ?_
    refine vc_y rfl rfl (y_as rfl) ?_
    first
    | refine vc_e (e_sts (vs := [_, _]) st 0 rfl rfl rfl rfl rfl Tryd.sizeOf27 rfl rfl (by first | (right; assumption) | (left; simp)) ?_)
    | refine vc_e (e_sts (vs := [_, _]) st 1 rfl rfl rfl rfl rfl Tryd.sizeOf27 rfl rfl (by first | (right; assumption) | (left; simp)) ?_)
    | refine vc_e (e_sts (vs := [_, _]) st 2 rfl rfl rfl rfl rfl Tryd.sizeOf27 rfl rfl (by first | (right; assumption) | (left; simp)) ?_)
    | refine vc_e (e_sts (vs := [_, _]) st 3 rfl rfl rfl rfl rfl Tryd.sizeOf27 rfl rfl (by first | (right; assumption) | (left; simp)) ?_)
    intro w st; dsimp only [setNth, wr] at st
    refine vc_end ?_
    refine vq_then ?_
    refine vc_keep [(2, _), (3, _), (4, _)] ⟨rfl, rfl, rfl, trivial⟩ ?_
    refine vc_ret ?_
    refine vq_then_ret ?_
    refine vq_ret3 st (.inl rfl) Tryd.results5 (.tmp rfl) (.tmp rfl) (by first | exact .cell 0 rfl rfl Tryd.isAgg27 Tryd.sizeOf27 | exact .cell 1 rfl rfl Tryd.isAgg27 Tryd.sizeOf27 | exact .cell 2 rfl rfl Tryd.isAgg27 Tryd.sizeOf27 | exact .cell 3 rfl rfl Tryd.isAgg27 Tryd.sizeOf27) ?_
    refine ⟨_, rfl, ?_⟩
    have e : scanRes s = ([], 4, 0, 0) := by unfold scanRes; rw [if_pos (by omega)]
    refine ⟨st.chg, none, 0, ?_, ?_⟩
    · rw [e]; rfl
    · rw [e]; exact World.ownsRow_nil _ _ _ _
  · intro hc11
    try simp only [decide_eq_true_eq, decide_eq_false_iff_not, Bool.not_eq_true', Bool.not_eq_false', Bool.not_eq_true, Bool.not_eq_false, Int.not_lt, Int.not_le, Nat.not_lt, Nat.not_le, Bool.not_true, Bool.not_false, Bool.true_eq_false, Bool.false_eq_true] at hc11
    replace st := st.ownNil 33 4
    refine vc_code_skip ?_
    refine vq_then ?_
    refine vc_keep [(0, _), (4, _)] ⟨rfl, rfl, trivial⟩ ?_
    refine vc_seq ?_
    refine vc_region ?_
    refine vc_y rfl rfl (y_mv rfl) ?_
    refine vc_y rfl rfl (y_bld (.agg #[_, _, _, _]) [(0, _)] rfl (fun w => by simp [Instr.build, go_sem] <;> repeat' constructor)) ?_
    refine vc_e (e_bx (l := [_, _, _, _]) st rfl rfl rfl rfl ?_)
    intro b15 w hb15 st
    refine vc_y rfl rfl (y_as rfl) ?_
    refine vc_end ?_
    refine vq_then ?_
    refine vc_keep [(4, _), (5, _)] ⟨rfl, rfl, trivial⟩ ?_
    refine vc_seq ?_
    refine vc_region ?_
    refine vc_y rfl rfl (y_as rfl) ?_
    refine vc_end ?_
    refine vq_then ?_
    refine vc_keep [(4, _), (5, _), (6, _)] ⟨rfl, rfl, rfl, trivial⟩ ?_
    refine vc_seq ?_
    refine vc_block ?_
    refine vc_loop (w0 := _) (M := _) (fun (x : List Tok × Nat × Option Addr × Nat) => [(4, .pointer (some ⟨b4, 0, none⟩)), (5, .pointer (some ⟨b15, 0, none⟩)), (6, .slice x.2.2.1 x.1.length x.2.2.2)]) (fun x => [.blk b15 (scn s x.2.1 0 0), .own (.slice x.2.2.1 x.1.length x.2.2.2) 33 4 x.1.length (toksL x.1), .blk b4 (.cells [.int .i64 0, .int .i64 0].toArray 27 (0, 0))]) (fun x _ => x.2.1 ≤ s.length ∧ x.1.length ≤ x.2.1 ∧ (front s).1 = x.1 ++ (scanA (s.drop x.2.1) x.2.1).1 ∧ (front s).2 = (scanA (s.drop x.2.1) x.2.1).2) (fun x => s.length - x.2.1) ([], 0, none, 0) ⟨rfl, rfl, rfl, trivial⟩ st ⟨by simp, by simp, by simp [front_eq], by simp [front_eq]⟩ ?_
    rintro ⟨l, i, oa, cap⟩ w ⟨hi, hli, hf1, hf2⟩ st
    dsimp only at *
    refine vc_block ?_
    refine vc_seq ?_
    refine vc_region ?_
    refine vc_y rfl rfl (y_mv rfl) ?_
    refine vc_e (e_call [_] rfl rfl Tryd.call10 rfl (next_any b15 s i _ (st.res (i := 0) rfl) hi (by omega)) ?_)
    rintro _ w ⟨cw, hp⟩
    obtain ⟨k, t, wd, a, ok, j, fa, fr, rfl, hw, hrel⟩ := nx_flat hp
    replace st := st.turn (i := 0) (r' := .blk b15 _) rfl rfl rfl cw (.inr (by assumption)) hw
    dsimp only [setNth] at st
    refine vc_y rfl rfl (y_mv rfl) ?_
    refine vc_y rfl rfl (y_ext rfl rfl) ?_
    refine vc_y rfl rfl (y_ext rfl rfl) ?_
    refine vc_e (e_al (l := [_, _, _, _]) st rfl rfl Tryd.zeroValue33 rfl ?_)
    intro b7 w hb7 st
    first
    | refine vc_e (e_sts (vs := [_, _, _, _]) st 0 rfl rfl rfl rfl rfl Tryd.sizeOf33 rfl rfl (by first | (right; assumption) | (left; simp)) ?_)
    | refine vc_e (e_sts (vs := [_, _, _, _]) st 1 rfl rfl rfl rfl rfl Tryd.sizeOf33 rfl rfl (by first | (right; assumption) | (left; simp)) ?_)
    | refine vc_e (e_sts (vs := [_, _, _, _]) st 2 rfl rfl rfl rfl rfl Tryd.sizeOf33 rfl rfl (by first | (right; assumption) | (left; simp)) ?_)
    | refine vc_e (e_sts (vs := [_, _, _, _]) st 3 rfl rfl rfl rfl rfl Tryd.sizeOf33 rfl rfl (by first | (right; assumption) | (left; simp)) ?_)
    intro w st; dsimp only [setNth, wr] at st
    refine vc_y rfl rfl (y_as rfl) ?_
    refine vc_end ?_
    refine vq_then ?_
    refine vc_keep [(4, _), (5, _), (6, _), (7, _), (8, _)] ⟨rfl, rfl, rfl, rfl, rfl, trivial⟩ ?_
    refine vc_seq ?_
    refine vc_seq ?_
    refine vc_region ?_
    refine vc_y rfl rfl (y_mv rfl) ?_
    refine vc_y rfl rfl (y_not rfl) ?_
    refine vc_end ?_
    refine vq_then ?_
    refine vc_keep [(4, _), (5, _), (6, _), (7, _), (22, _)] ⟨rfl, rfl, rfl, rfl, rfl, trivial⟩ ?_
    refine vc_ifs rfl ?_ ?_
    · intro hc22
      try simp only [decide_eq_true_eq, decide_eq_false_iff_not, Bool.not_eq_true', Bool.not_eq_false', Bool.not_eq_true, Bool.not_eq_false, Int.not_lt, Int.not_le, Nat.not_lt, Nat.not_le, Bool.not_true, Bool.not_false, Bool.true_eq_false, Bool.false_eq_true] at hc22
      refine vc_exit ?_
      refine vq_then_exit ?_
      refine vq_block_other rfl ?_
      refine vq_then_exit ?_
      refine vq_block_exit ?_
      refine vq_then ?_
      refine vc_keep [(4, _), (5, _), (6, _)] ⟨rfl, rfl, rfl, trivial⟩ ?_
      refine vc_seq ?_
      refine vc_seq ?_
      refine vc_region ?_
      refine vc_y rfl rfl (y_mv rfl) ?_
      refine vc_y rfl rfl (y_nck rfl) ?_
      refine vc_y rfl rfl ((by first | exact y_faz (k := 2) rfl Tryd.underlying41 rfl rfl Tryd.sizeOf27 rfl | exact y_fa (k := 2) rfl Tryd.underlying41 rfl rfl Tryd.sizeOf27 rfl)) ?_
      refine vc_y rfl rfl ((by first | exact y_faz (k := 1) rfl Tryd.underlying27 rfl rfl Tryd.sizeOf3 rfl | exact y_fa (k := 1) rfl Tryd.underlying27 rfl rfl Tryd.sizeOf3 rfl)) ?_
      refine vc_y rfl rfl ((by first | exact y_ld st 0 rfl Tryd.isAgg3 rfl rfl | exact y_ld st 1 rfl Tryd.isAgg3 rfl rfl | exact y_ld st 2 rfl Tryd.isAgg3 rfl rfl | exact y_ld st 3 rfl Tryd.isAgg3 rfl rfl)) ?_
      refine vc_y rfl rfl (y_nei rfl rfl) ?_
      refine vc_end ?_
      refine vq_then ?_
      refine vc_keep [(4, _), (5, _), (6, _), (32, _)] ⟨rfl, rfl, rfl, rfl, trivial⟩ ?_
      refine vc_ifs rfl ?_ ?_
      · intro hc32
        try simp only [decide_eq_true_eq, decide_eq_false_iff_not, Bool.not_eq_true', Bool.not_eq_false', Bool.not_eq_true, Bool.not_eq_false, Int.not_lt, Int.not_le, Nat.not_lt, Nat.not_le, Bool.not_true, Bool.not_false, Bool.true_eq_false, Bool.false_eq_true] at hc32
        refine vc_seq ?_
        refine vc_draw Tryd.mixed [(0, true), (1, true), (2, true), (3, true), (4, true), (5, true), (6, false)] (fun w => St _ _ [.blk b15 (scn s j fa fr)] w) (by first | exact st | exact st.drop (by repeat (first | exact List.Sublist.slnil | apply List.Sublist.cons_cons | apply List.Sublist.cons))) (by kernel_rfl) (by repeat (first | exact okQ_body | refine okQ_then ?_ | refine okQ_block ?_)) rfl (by kernel_rfl) ?_
        intro w cd; replace st := st.call0 cd; clear cd
        have hS : St _ _ [.blk b15 (scn s j fa fr)] w := (by first | exact st | exact st.drop (by repeat (first | exact List.Sublist.slnil | apply List.Sublist.cons_cons | apply List.Sublist.cons)))
        refine vp_take rfl rfl rfl hS (fun w st => y_mv rfl) ?_
        refine vp_take rfl rfl rfl hS (fun w st => y_nck rfl) ?_
        refine vp_take rfl rfl rfl hS (fun w st => (by first | exact y_faz (k := 2) rfl Tryd.underlying41 rfl rfl Tryd.sizeOf27 rfl | exact y_fa (k := 2) rfl Tryd.underlying41 rfl rfl Tryd.sizeOf27 rfl)) ?_
        refine vp_take rfl rfl rfl hS (fun w st => (by first | exact y_lda (vs := [_, _]) st 0 rfl Tryd.isAgg27 Tryd.sizeOf27 rfl rfl | exact y_lda (vs := [_, _]) st 1 rfl Tryd.isAgg27 Tryd.sizeOf27 rfl rfl | exact y_lda (vs := [_, _]) st 2 rfl Tryd.isAgg27 Tryd.sizeOf27 rfl rfl | exact y_lda (vs := [_, _]) st 3 rfl Tryd.isAgg27 Tryd.sizeOf27 rfl rfl)) ?_
        refine vp_take rfl rfl rfl hS (fun w st => y_as rfl) ?_
        refine vp_take rfl rfl rfl hS (fun w st => y_as rfl) ?_
        first
        | refine vp_do rfl (e_sts (vs := [_, _]) st 0 rfl rfl rfl rfl rfl Tryd.sizeOf27 rfl rfl (by first | (right; assumption) | (left; simp)) ?_)
        | refine vp_do rfl (e_sts (vs := [_, _]) st 1 rfl rfl rfl rfl rfl Tryd.sizeOf27 rfl rfl (by first | (right; assumption) | (left; simp)) ?_)
        | refine vp_do rfl (e_sts (vs := [_, _]) st 2 rfl rfl rfl rfl rfl Tryd.sizeOf27 rfl rfl (by first | (right; assumption) | (left; simp)) ?_)
        | refine vp_do rfl (e_sts (vs := [_, _]) st 3 rfl rfl rfl rfl rfl Tryd.sizeOf27 rfl rfl (by first | (right; assumption) | (left; simp)) ?_)
        intro w st; dsimp only [setNth, wr] at st
        refine vp_next (by first | exact st | exact st.drop (by repeat (first | exact List.Sublist.slnil | apply List.Sublist.cons_cons | apply List.Sublist.cons))) ?_; intro hS
        refine vp_end ?_
        refine vq_then ?_
        refine vc_keep [(2, _), (3, _), (4, _)] ⟨rfl, rfl, rfl, trivial⟩ ?_
        refine vc_ret ?_
        refine vq_then_ret ?_
        refine vq_ret3 st (.inl rfl) Tryd.results5 (.tmp rfl) (.tmp rfl) (by first | exact .cell 0 rfl rfl Tryd.isAgg27 Tryd.sizeOf27 | exact .cell 1 rfl rfl Tryd.isAgg27 Tryd.sizeOf27 | exact .cell 2 rfl rfl Tryd.isAgg27 Tryd.sizeOf27 | exact .cell 3 rfl rfl Tryd.isAgg27 Tryd.sizeOf27) ?_
        refine ⟨_, rfl, ?_⟩
        rcases hrel with ⟨h, _⟩ | ⟨_, _, _, h⟩ | ⟨_, rule, p, hlt, hx, rfl, rfl⟩
        · simp [h] at hc22
        · exact absurd h hc32
        · have hsc := scanA_bad (r := s.drop i) (i := i) (by simp; omega) (by rw [List.drop_drop]; exact hx)
          have e : scanRes s = ([], 20, p, rule) := by unfold scanRes; rw [if_neg (by omega), hf2, hsc]
          refine ⟨st.chg, none, 0, ?_, ?_⟩
          · rw [e]; rfl
          · rw [e]; exact World.ownsRow_nil _ _ _ _
      · intro hc32
        try simp only [decide_eq_true_eq, decide_eq_false_iff_not, Bool.not_eq_true', Bool.not_eq_false', Bool.not_eq_true, Bool.not_eq_false, Int.not_lt, Int.not_le, Nat.not_lt, Nat.not_le, Bool.not_true, Bool.not_false, Bool.true_eq_false, Bool.false_eq_true] at hc32
        refine vc_code_skip ?_
        refine vq_then ?_
        refine vc_keep [(4, _), (6, _)] ⟨rfl, rfl, trivial⟩ ?_
        refine vc_seq ?_
        refine vc_region ?_
        refine vc_y rfl rfl (y_mv rfl) ?_
        refine vc_y rfl rfl (y_bld (.agg #[_, _]) [] rfl (fun w => by simp [Instr.build, go_sem] <;> repeat' constructor)) ?_
        refine vc_y rfl rfl (y_as rfl) ?_
        refine vc_y rfl rfl (y_as rfl) ?_
        first
        | refine vc_e (e_sts (vs := [_, _]) st 0 rfl rfl rfl rfl rfl Tryd.sizeOf27 rfl rfl (by first | (right; assumption) | (left; simp)) ?_)
        | refine vc_e (e_sts (vs := [_, _]) st 1 rfl rfl rfl rfl rfl Tryd.sizeOf27 rfl rfl (by first | (right; assumption) | (left; simp)) ?_)
        | refine vc_e (e_sts (vs := [_, _]) st 2 rfl rfl rfl rfl rfl Tryd.sizeOf27 rfl rfl (by first | (right; assumption) | (left; simp)) ?_)
        | refine vc_e (e_sts (vs := [_, _]) st 3 rfl rfl rfl rfl rfl Tryd.sizeOf27 rfl rfl (by first | (right; assumption) | (left; simp)) ?_)
        intro w st; dsimp only [setNth, wr] at st
        refine vc_end ?_
        refine vq_then ?_
        refine vc_keep [(2, _), (3, _), (4, _)] ⟨rfl, rfl, rfl, trivial⟩ ?_
        refine vc_ret ?_
        refine vq_ret3 st (.inl rfl) Tryd.results5 (.tmp rfl) (.tmp rfl) (by first | exact .cell 0 rfl rfl Tryd.isAgg27 Tryd.sizeOf27 | exact .cell 1 rfl rfl Tryd.isAgg27 Tryd.sizeOf27 | exact .cell 2 rfl rfl Tryd.isAgg27 Tryd.sizeOf27 | exact .cell 3 rfl rfl Tryd.isAgg27 Tryd.sizeOf27) ?_
        refine ⟨_, rfl, ?_⟩
        rcases hrel with ⟨h, _⟩ | ⟨_, hle, _, h⟩ | ⟨_, rule, p, hlt, hx, rfl, rfl⟩
        · simp [h] at hc22
        · have hsc := scanA_end (r := s.drop i) (i := i) (by simp; omega)
          have e : scanRes s = (l, 0, 0, 0) := by unfold scanRes; rw [if_neg (by omega), hf2, hsc, hf1, hsc]; simp
          refine ⟨st.chg, oa, cap, ?_, ?_⟩
          · rw [e]; rfl
          · rw [e]; exact st.res (i := 2) rfl
        · have := bad_rule hx; omega
    · intro hc22
      try simp only [decide_eq_true_eq, decide_eq_false_iff_not, Bool.not_eq_true', Bool.not_eq_false', Bool.not_eq_true, Bool.not_eq_false, Int.not_lt, Int.not_le, Nat.not_lt, Nat.not_le, Bool.not_true, Bool.not_false, Bool.true_eq_false, Bool.false_eq_true] at hc22
      refine vc_code_skip ?_
      refine vq_then ?_
      refine vc_keep [(4, _), (5, _), (6, _), (7, _)] ⟨rfl, rfl, rfl, rfl, trivial⟩ ?_
      refine vc_region ?_
      refine vc_y rfl rfl (y_mv rfl) ?_
      refine vc_y rfl rfl ((by first | exact y_lda (vs := [_, _, _, _]) st 0 rfl Tryd.isAgg33 Tryd.sizeOf33 rfl rfl | exact y_lda (vs := [_, _, _, _]) st 1 rfl Tryd.isAgg33 Tryd.sizeOf33 rfl rfl | exact y_lda (vs := [_, _, _, _]) st 2 rfl Tryd.isAgg33 Tryd.sizeOf33 rfl rfl | exact y_lda (vs := [_, _, _, _]) st 3 rfl Tryd.isAgg33 Tryd.sizeOf33 rfl rfl)) ?_
      refine vc_e (e_bs1 (l := [_, _, _, _]) st rfl rfl rfl rfl Tryd.underlying24 Tryd.sizeOf33 rfl rfl rfl Tryd.zeroValue33 ?_)
      intro b25 w hb25 st
      refine vc_e (e_app (bytes := 40) st 3 0 rfl rfl rfl rfl rfl rfl Tryd.underlying24 Tryd.info33 rfl rfl rfl rfl rfl (by simp) rfl rfl (by unfold maxLen; omega) (by omega) ?_)
      intro oa26 cap26 w st; dsimp only [setNth] at st
      refine vc_y rfl rfl (y_as rfl) ?_
      refine vc_end ?_
      refine vq_block ?_
      rcases hrel with ⟨_, x, hlt, hx, rfl, rfl, rfl, rfl, rfl, rfl, rfl⟩ | ⟨h, _⟩ | ⟨h, _⟩
      · have hx1 := tok_len hx
        have hxl : x.text.length ≤ s.length - (i + skip (List.drop i s)) := by have h := congrArg List.length hx1.2.1; simp at h; omega
        have hsc := scanA_tok (r := s.drop i) (i := i) (by simp; omega) (by rw [List.drop_drop]; exact hx)
        rw [List.drop_drop, ← Nat.add_assoc] at hsc
        refine vq_again (l ++ [x], i + skip (List.drop i s) + x.text.length, oa26, cap26) ⟨rfl, rfl, by simp only [List.length_append, List.length_cons, List.length_nil]; rfl, trivial⟩ ?_ ⟨by dsimp only; omega, by simp; omega, ?_, ?_⟩ (by dsimp only; omega)
        · simp only [List.length_append, List.length_cons, List.length_nil, toksL_snoc]
          exact st.drop (by repeat (first | exact List.Sublist.slnil | apply List.Sublist.cons_cons | apply List.Sublist.cons))
        · rw [hf1, hsc]; simp
        · rw [hf2, hsc]
      · simp [h] at hc22
      · simp [h] at hc22

end Go.Proofs.YtakepmhgmgpkkaaDoor
