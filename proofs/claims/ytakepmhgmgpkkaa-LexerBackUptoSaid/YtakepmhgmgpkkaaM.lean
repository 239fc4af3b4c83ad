/- A part of the proof: contracts of functions and plain laws; each theorem says its own conditions. -/
import Derived.Test.YtakepmhgmgpkkaaL
import Derived.WalkKit
import Derived.ProofKit
import Derived.OpenShut
import Derived.ShutString
import Derived.ChangeOld
import Derived.Below
namespace Go.Proofs.Ytakepmhgmgpkkaa
open Go.ChangeShapes Go.WideShapes Go.ChangeAt Go.RowKit
open Go.ChangeMaps (open_string shut_string)
open Sx LexS
set_option linter.unusedVariables false
set_option linter.unusedSimpArgs false
/-- a token as the memory holds it -/
structure TV where
  k : Int
  t : List UInt8
  wd : Int
  a : Int
def tv0 : TV := ⟨0, [], 0, 0⟩
def tvL (x : TV) : List Value := tok4 x.k x.t x.wd x.a
def tvOf (x : Tok) : TV := ⟨x.kind, x.text, x.word, x.at_⟩
theorem toksL_tv (l : List Tok) : toksL l = (l.map tvOf).flatMap tvL := by
  induction l with
  | nil => rfl
  | cons x r ih => simp only [toksL, List.flatMap_cons, List.map_cons] at *; rw [ih]; rfl
/-- a row of tokens that can be read -/
def IsToks (w : World) (oa : Option Addr) (A : List TV) : Prop := A = [] ∨ ∃ g off, oa = some ⟨g, off, none⟩ ∧ ∀ j, j < A.length →
  w.cell? ⟨g, off + j * 4, none⟩ = some (.int .u8 (A.getD j tv0).k) ∧ w.cell? ⟨g, off + j * 4 + 1, none⟩ = some (str (A.getD j tv0).t) ∧
  w.cell? ⟨g, off + j * 4 + 2, none⟩ = some (.int .i64 (A.getD j tv0).wd) ∧ w.cell? ⟨g, off + j * 4 + 3, none⟩ = some (.int .i64 (A.getD j tv0).a)
theorem tvs_get (A : List TV) (j f : Nat) (hj : j < A.length) (hf : f < 4) : (A.flatMap tvL)[j * 4 + f]? = (tvL (A.getD j tv0))[f]? := by
  induction A generalizing j with
  | nil => simp at hj
  | cons x r ih =>
    have hl : (tvL x).length = 4 := rfl
    cases j with
    | zero => simp only [List.flatMap_cons, Nat.zero_mul, Nat.zero_add, List.getD_cons_zero]; rw [List.getElem?_append_left (by omega)]
    | succ j =>
      simp only [List.flatMap_cons, List.getD_cons_succ]
      rw [List.getElem?_append_right (by omega), hl, show (j + 1) * 4 + f - 4 = j * 4 + f by omega]
      exact ih j (by simpa using hj)
theorem isToks_own {w : World} {base cap : Nat} {oa : Option Addr} {A : List TV} (h : w.ownsRow base 33 4 (.slice oa A.length cap) A.length (A.flatMap tvL)) : IsToks w oa A := by
  rcases A with _ | ⟨x, r⟩
  · exact .inl rfl
  · obtain ⟨g, cap', e, _⟩ := own_form h (by simp)
    simp only [Value.slice.injEq] at e
    obtain ⟨rfl, -, rfl⟩ := e
    refine .inr ⟨g, 0, rfl, fun j hj => ?_⟩
    simp only [Nat.zero_add]
    exact ⟨own_cell h (by have h := tvs_get _ j 0 hj (by omega); rw [Nat.add_zero] at h; rw [h]; rfl), own_cell h (by rw [tvs_get _ j 1 hj (by omega)]; rfl), own_cell h (by rw [tvs_get _ j 2 hj (by omega)]; rfl), own_cell h (by rw [tvs_get _ j 3 hj (by omega)]; rfl)⟩
theorem IsToks.kept {w w' : World} {M : List Nat} {oa : Option Addr} {A : List TV} (h : IsToks w oa A) (c : Chg [] w w') : IsToks w' oa A :=
  h.imp id fun ⟨g, off, e, hc⟩ => ⟨g, off, e, fun j hj => ⟨c.cell (hc j hj).1 (by simp), c.cell (hc j hj).2.1 (by simp), c.cell (hc j hj).2.2.1 (by simp), c.cell (hc j hj).2.2.2 (by simp)⟩⟩
def EqT (p : Bool) (x y : TV) : Prop := x.k = y.k ∧ x.t = y.t ∧ x.wd = y.wd ∧ (p = true → x.a = y.a)
def SameP (p : Bool) (A B : List TV) : Prop := A.length = B.length ∧ ∀ j, j < A.length → EqT p (A.getD j tv0) (B.getD j tv0)
theorem SameP.refl (p : Bool) (A : List TV) : SameP p A A := ⟨rfl, fun j _ => ⟨rfl, rfl, rfl, fun _ => rfl⟩⟩
theorem sameP_true {A B : List TV} (h : SameP true A B) : A = B := by
  apply List.ext_getElem h.1
  intro j h1 h2
  obtain ⟨e1, e2, e3, e4⟩ := h.2 j h1
  have e4 := e4 rfl
  simp only [List.getD, List.getElem?_eq_getElem h1, List.getElem?_eq_getElem h2, Option.getD_some] at e1 e2 e3 e4
  generalize A[j] = x at *
  generalize B[j] = y at *
  cases x; cases y; simp_all
/-- one token of the document's, its parts named -/
theorem one_flat {res : TokR} {v : Value} (h : OnePost res v) : ∃ k t wd a rule p, v = .tuple [.agg (tok4 k t wd a).toArray, .int .i64 rule, .int .i64 p].toArray ∧
    ((rule = 0 ∧ p = 0 ∧ ∃ x : Tok, res = .tok x ∧ k = x.kind ∧ t = x.text ∧ wd = x.word ∧ a = x.at_) ∨ ∃ r q : Nat, res = .bad r q ∧ rule = r ∧ p = q) := by
  cases res with
  | tok x => exact ⟨_, _, _, _, _, _, h, .inl ⟨rfl, rfl, x, rfl, rfl, rfl, rfl, rfl⟩⟩
  | bad r q => obtain ⟨k, t, wd, a, hv⟩ := h; exact ⟨k, t, wd, a, _, _, hv, .inr ⟨r, q, rfl, rfl, rfl⟩⟩
def fRule (x : Option (Nat × Nat)) : Nat := match x with | none => 0 | some (r, _) => r
def fAt (x : Option (Nat × Nat)) : Nat := match x with | none => 0 | some (_, p) => p
def FrontPost (s : List UInt8) (w : World) (v : Value) (w' : World) : Prop :=
  Chg [] w w' ∧ ∃ oa cap, v = .tuple [.slice oa (front s).1.length cap, .int .i64 (fRule (front s).2 : Int), .int .i64 (fAt (front s).2 : Int)].toArray ∧
    w'.ownsRow w.heap.size 33 4 (.slice oa (front s).1.length cap) (front s).1.length (toksL (front s).1)

set_option maxHeartbeats 1000000 in
theorem rfront_any (s : List UInt8) (w : World) (hs : s.length ≤ 3000000000000) : Ret Try.prog 24 [str s] w (FrontPost s w) := by
  refine ret_of [_] Try.func24 rfl Try.ntmps24 rfl ?_
  have st := St.init w []
  refine vc_seq ?_
  refine vc_region ?_
  refine vc_y rfl rfl (y_as rfl) ?_
  refine vc_y rfl rfl (y_as rfl) ?_
  refine vc_y rfl rfl (y_as rfl) ?_
  refine vc_end ?_
  refine vq_then ?_
  refine vc_keep [(0, _)] ⟨rfl, trivial⟩ ?_
  refine vc_seq ?_
  refine vc_region ?_
  refine vc_y rfl rfl (y_as rfl) ?_
  refine vc_end ?_
  refine vq_then ?_
  refine vc_keep [(0, _), (5, _)] ⟨rfl, rfl, trivial⟩ ?_
  refine vc_seq ?_
  refine vc_seq ?_
  refine vc_region ?_
  refine vc_y rfl rfl (y_mv rfl) ?_
  refine vc_e (e_call [_, _] rfl rfl Try.call36 rfl (rskip_any s 0 _ (by omega) (by omega)) ?_)
  rintro _ w ⟨rfl, rfl⟩
  replace st := st.ownNil 33 4
  refine vc_y rfl rfl (y_as rfl) ?_
  refine vc_end ?_
  refine vq_then ?_
  refine vc_keep [(0, _), (5, _), (6, _)] ⟨rfl, rfl, rfl, trivial⟩ ?_
  refine vc_block ?_
  refine vc_loop (w0 := _) (M := _) (fun (x : List Tok × Nat × Option Addr × Nat) => [(0, str s), (5, .slice x.2.2.1 x.1.length x.2.2.2), (6, .int .i64 ((x.2.1 + skip (s.drop x.2.1) : Nat) : Int))]) (fun x => [.own (.slice x.2.2.1 x.1.length x.2.2.2) 33 4 x.1.length (toksL x.1)]) (fun x _ => x.2.1 ≤ s.length ∧ x.1.length ≤ x.2.1 ∧ (front s).1 = x.1 ++ (scanA (s.drop x.2.1) x.2.1).1 ∧ (front s).2 = (scanA (s.drop x.2.1) x.2.1).2) (fun x => s.length - x.2.1) ([], 0, none, 0) ⟨rfl, rfl, rfl, trivial⟩ st ⟨by simp, by simp, by simp [front_eq], by simp [front_eq]⟩ ?_
  rintro ⟨l, i, oa, cap⟩ w ⟨hi, hli, hf1, hf2⟩ st
  dsimp only at *
  refine vc_seq ?_
  refine vc_seq ?_
  refine vc_region ?_
  refine vc_y rfl rfl (y_mv rfl) ?_
  refine vc_y rfl rfl (y_mv rfl) ?_
  refine vc_y rfl rfl (y_lens rfl Try.underlying9) ?_
  refine vc_y rfl rfl (y_lss rfl rfl) ?_
  refine vc_end ?_
  refine vq_then ?_
  refine vc_keep [(0, _), (5, _), (6, _), (15, _)] ⟨rfl, rfl, rfl, rfl, trivial⟩ ?_
  refine vc_ifs rfl ?_ ?_
  · intro hc15
    try simp only [decide_eq_true_eq, decide_eq_false_iff_not, Bool.not_eq_true', Bool.not_eq_false', Bool.not_eq_true, Bool.not_eq_false, Int.not_lt, Int.not_le, Nat.not_lt, Nat.not_le, Bool.not_true, Bool.not_false, Bool.true_eq_false, Bool.false_eq_true] at hc15
    refine vc_code_skip ?_
    refine vq_then ?_
    refine vc_keep [(0, _), (5, _), (6, _)] ⟨rfl, rfl, rfl, trivial⟩ ?_
    refine vc_seq ?_
    refine vc_block ?_
    refine vc_seq ?_
    refine vc_region ?_
    refine vc_y rfl rfl (y_mv rfl) ?_
    refine vc_y rfl rfl (y_mv rfl) ?_
    refine vc_e (e_call [_, _] rfl rfl Try.call37 rfl (rone_any s (i + skip (s.drop i)) _ (by omega) (by omega)) ?_)
    rintro _ w ⟨hp, cw⟩
    obtain ⟨k, t, wd, a, rule, p, rfl, hrel⟩ := one_flat hp
    replace st := st.call0 cw
    refine vc_y rfl rfl (y_mv rfl) ?_
    refine vc_y rfl rfl (y_ext rfl rfl) ?_
    refine vc_y rfl rfl (y_ext rfl rfl) ?_
    refine vc_y rfl rfl (y_ext rfl rfl) ?_
    refine vc_e (e_al (l := [_, _, _, _]) st rfl rfl Try.zeroValue33 rfl ?_)
    intro b7 w hb7 st
    first
    | refine vc_e (e_sts (vs := [_, _, _, _]) st 0 rfl rfl rfl rfl rfl Try.sizeOf33 rfl rfl (by first | (right; assumption) | (left; simp)) ?_)
    | refine vc_e (e_sts (vs := [_, _, _, _]) st 1 rfl rfl rfl rfl rfl Try.sizeOf33 rfl rfl (by first | (right; assumption) | (left; simp)) ?_)
    | refine vc_e (e_sts (vs := [_, _, _, _]) st 2 rfl rfl rfl rfl rfl Try.sizeOf33 rfl rfl (by first | (right; assumption) | (left; simp)) ?_)
    | refine vc_e (e_sts (vs := [_, _, _, _]) st 3 rfl rfl rfl rfl rfl Try.sizeOf33 rfl rfl (by first | (right; assumption) | (left; simp)) ?_)
    intro w st; dsimp only [setNth, wr] at st
    refine vc_y rfl rfl (y_as rfl) ?_
    refine vc_y rfl rfl (y_as rfl) ?_
    refine vc_end ?_
    refine vq_then ?_
    refine vc_keep [(0, _), (5, _), (6, _), (7, _), (8, _), (9, _)] ⟨rfl, rfl, rfl, rfl, rfl, rfl, trivial⟩ ?_
    refine vc_seq ?_
    refine vc_seq ?_
    refine vc_region ?_
    refine vc_y rfl rfl (y_mv rfl) ?_
    refine vc_y rfl rfl (y_gtr rfl rfl) ?_
    refine vc_end ?_
    refine vq_then ?_
    refine vc_keep [(0, _), (5, _), (6, _), (7, _), (8, _), (9, _), (27, _)] ⟨rfl, rfl, rfl, rfl, rfl, rfl, rfl, trivial⟩ ?_
    refine vc_ifs rfl ?_ ?_
    · intro hc27
      try simp only [decide_eq_true_eq, decide_eq_false_iff_not, Bool.not_eq_true', Bool.not_eq_false', Bool.not_eq_true, Bool.not_eq_false, Int.not_lt, Int.not_le, Nat.not_lt, Nat.not_le, Bool.not_true, Bool.not_false, Bool.true_eq_false, Bool.false_eq_true] at hc27
      refine vc_seq ?_
      refine vc_region ?_
      refine vc_y rfl rfl (y_mv rfl) ?_
      refine vc_y rfl rfl (y_mv rfl) ?_
      refine vc_y rfl rfl (y_mv rfl) ?_
      refine vc_y rfl rfl (y_as rfl) ?_
      refine vc_y rfl rfl (y_as rfl) ?_
      refine vc_y rfl rfl (y_as rfl) ?_
      refine vc_end ?_
      refine vq_then ?_
      refine vc_keep [(2, _), (3, _), (4, _)] ⟨rfl, rfl, rfl, trivial⟩ ?_
      refine vc_ret ?_
      refine vq_then_ret ?_
      refine vq_block_ret ?_
      refine vq_then_ret ?_
      refine vq_then_ret ?_
      refine vq_block_ret ?_
      refine vq_then_ret ?_
      refine vq_ret3 st (.inl rfl) Try.results24 (.tmp rfl) (.tmp rfl) (.tmp rfl) ?_
      refine ⟨_, rfl, ?_⟩
      obtain ⟨r, q, hx, rfl, rfl⟩ : ∃ r q : Nat, tokAt (s.drop (i + skip (s.drop i))) (i + skip (s.drop i)) = .bad r q ∧ rule = r ∧ p = q := by
        rcases hrel with ⟨h, _⟩ | h
        · omega
        · exact h
      have hsc := scanA_bad (r := s.drop i) (i := i) (by simp; omega) (by rw [List.drop_drop]; exact hx)
      have e1 : (front s).1 = l := by rw [hf1, hsc]; simp
      have e2 : (front s).2 = some (r, q) := by rw [hf2, hsc]
      refine ⟨st.chg, oa, cap, ?_, ?_⟩
      · rw [e1, e2]; rfl
      · rw [e1]; exact st.res (i := 1) rfl
    · intro hc27
      try simp only [decide_eq_true_eq, decide_eq_false_iff_not, Bool.not_eq_true', Bool.not_eq_false', Bool.not_eq_true, Bool.not_eq_false, Int.not_lt, Int.not_le, Nat.not_lt, Nat.not_le, Bool.not_true, Bool.not_false, Bool.true_eq_false, Bool.false_eq_true] at hc27
      obtain ⟨rfl, rfl, x, hx, rfl, rfl, rfl, rfl⟩ : rule = 0 ∧ p = 0 ∧ ∃ x : Tok, tokAt (s.drop (i + skip (s.drop i))) (i + skip (s.drop i)) = .tok x ∧ k = x.kind ∧ t = x.text ∧ wd = x.word ∧ a = x.at_ := by
        rcases hrel with h | ⟨r, q, hx, rfl, rfl⟩
        · exact h
        · have := bad_rule hx; omega
      have hx1 := tok_len hx
      have hxl : x.text.length ≤ s.length - (i + skip (List.drop i s)) := by have h := congrArg List.length hx1.2.1; simp at h; omega
      have hsc := scanA_tok (r := s.drop i) (i := i) (by simp; omega) (by rw [List.drop_drop]; exact hx)
      rw [List.drop_drop, ← Nat.add_assoc] at hsc
      refine vc_code_skip ?_
      refine vq_then ?_
      refine vc_keep [(0, _), (5, _), (6, _), (7, _)] ⟨rfl, rfl, rfl, rfl, trivial⟩ ?_
      refine vc_seq ?_
      refine vc_region ?_
      refine vc_y rfl rfl (y_mv rfl) ?_
      refine vc_y rfl rfl ((by first | exact y_lda (vs := [_, _, _, _]) st 0 rfl Try.isAgg33 Try.sizeOf33 rfl rfl | exact y_lda (vs := [_, _, _, _]) st 1 rfl Try.isAgg33 Try.sizeOf33 rfl rfl | exact y_lda (vs := [_, _, _, _]) st 2 rfl Try.isAgg33 Try.sizeOf33 rfl rfl | exact y_lda (vs := [_, _, _, _]) st 3 rfl Try.isAgg33 Try.sizeOf33 rfl rfl)) ?_
      refine vc_e (e_bs1 (l := [_, _, _, _]) st rfl rfl rfl rfl Try.underlying24 Try.sizeOf33 rfl rfl rfl Try.zeroValue33 ?_)
      intro b33 w hb33 st
      refine vc_e (e_app (bytes := 40) st 2 0 rfl rfl rfl rfl rfl rfl Try.underlying24 Try.info33 rfl rfl rfl rfl rfl (by simp) rfl rfl (by unfold maxLen; omega) (by omega) ?_)
      intro oa34 cap34 w st; dsimp only [setNth] at st
      refine vc_y rfl rfl (y_as rfl) ?_
      refine vc_end ?_
      refine vq_then ?_
      refine vc_keep [(0, _), (5, _), (6, _), (7, _)] ⟨rfl, rfl, rfl, rfl, trivial⟩ ?_
      refine vc_region ?_
      refine vc_y rfl rfl (y_mv rfl) ?_
      refine vc_y rfl rfl ((by first | exact y_faz (k := 1) rfl Try.underlying33 rfl rfl Try.sizeOf9 rfl | exact y_fa (k := 1) rfl Try.underlying33 rfl rfl Try.sizeOf9 rfl)) ?_
      refine vc_y rfl rfl ((by first | exact y_ld st 0 rfl Try.isAgg9 rfl rfl | exact y_ld st 1 rfl Try.isAgg9 rfl rfl | exact y_ld st 2 rfl Try.isAgg9 rfl rfl | exact y_ld st 3 rfl Try.isAgg9 rfl rfl)) ?_
      refine vc_y rfl rfl (y_lens rfl Try.underlying9) ?_
      refine vc_y rfl rfl (y_add rfl rfl (by omega : _ = ((i + skip (List.drop i s) + x.text.length : Nat) : Int)) (by omega) (by omega)) ?_
      refine vc_y rfl rfl (y_as rfl) ?_
      refine vc_end ?_
      refine vq_block ?_
      refine vq_then ?_
      refine vc_keep [(0, _), (5, _), (6, _)] ⟨rfl, rfl, rfl, trivial⟩ ?_
      refine vc_region ?_
      refine vc_y rfl rfl (y_mv rfl) ?_
      refine vc_y rfl rfl (y_mv rfl) ?_
      refine vc_e (e_call [_, _] rfl rfl Try.call36 rfl (rskip_any s (i + skip (List.drop i s) + x.text.length) _ (by omega) (by omega)) ?_)
      rintro _ w ⟨rfl, rfl⟩
      refine vc_y rfl rfl (y_as rfl) ?_
      refine vc_end ?_
      refine vq_again (l ++ [x], i + skip (List.drop i s) + x.text.length, oa34, cap34) ⟨rfl, by simp only [List.length_append, List.length_cons, List.length_nil]; rfl, rfl, trivial⟩ ?_ ⟨by dsimp only; omega, by simp; omega, ?_, ?_⟩ (by dsimp only; omega)
      · simp only [List.length_append, List.length_cons, List.length_nil, toksL_snoc]
        exact st.drop (by repeat (first | exact List.Sublist.slnil | apply List.Sublist.cons_cons | apply List.Sublist.cons))
      · rw [hf1, hsc]; simp
      · rw [hf2, hsc]
  · intro hc15
    try simp only [decide_eq_true_eq, decide_eq_false_iff_not, Bool.not_eq_true', Bool.not_eq_false', Bool.not_eq_true, Bool.not_eq_false, Int.not_lt, Int.not_le, Nat.not_lt, Nat.not_le, Bool.not_true, Bool.not_false, Bool.true_eq_false, Bool.false_eq_true] at hc15
    refine vc_exit ?_
    refine vq_then_exit ?_
    refine vq_then_exit ?_
    refine vq_block_exit ?_
    refine vq_then ?_
    refine vc_keep [(5, _)] ⟨rfl, trivial⟩ ?_
    refine vc_seq ?_
    refine vc_region ?_
    refine vc_y rfl rfl (y_mv rfl) ?_
    refine vc_y rfl rfl (y_as rfl) ?_
    refine vc_y rfl rfl (y_as rfl) ?_
    refine vc_y rfl rfl (y_as rfl) ?_
    refine vc_end ?_
    refine vq_then ?_
    refine vc_keep [(2, _), (3, _), (4, _)] ⟨rfl, rfl, rfl, trivial⟩ ?_
    refine vc_ret ?_
    refine vq_ret3 st (.inl rfl) Try.results24 (.tmp rfl) (.tmp rfl) (.tmp rfl) ?_
    refine ⟨_, rfl, ?_⟩
    have hsc := scanA_end (r := s.drop i) (i := i) (by simp; omega)
    have e1 : (front s).1 = l := by rw [hf1, hsc]; simp
    have e2 : (front s).2 = none := by rw [hf2, hsc]
    refine ⟨st.chg, oa, cap, ?_, ?_⟩
    · rw [e1, e2]; rfl
    · rw [e1]; exact st.res (i := 0) rfl

theorem frontFault {s : List UInt8} {r p : Nat} (h : (front s).2 = some (r, p)) : 1 ≤ r := by
  have key : ∀ (n : Nat) (t : List UInt8) (i : Nat), t.length < n → (scanA t i).2 = some (r, p) → 1 ≤ r := by
    intro n
    induction n with
    | zero => intro t i h; omega
    | succ n ih =>
      intro t i hn h
      rcases Nat.lt_or_ge (skip t) t.length with hk | hk
      · cases hx : tokAt (t.drop (skip t)) (i + skip t) with
        | bad rule q => rw [scanA_bad hk hx] at h; have := bad_rule hx; simp at h; omega
        | tok x => rw [scanA_tok hk hx] at h; have := (tok_len hx).1; exact ih _ _ (by simp; omega) h
      · rw [scanA_end hk] at h; simp at h
  exact key _ s 0 (Nat.lt_succ_self _) h

set_option maxHeartbeats 1000000 in
theorem rscan_any (s : List UInt8) (w : World) : Ret Try.prog 22 [str s] w (ScanPost s w) := by
  refine ret_of [_] Try.func22 rfl Try.ntmps22 rfl ?_
  have st := St.init w []
  refine vc_seq ?_
  refine vc_region ?_
  refine vc_y rfl rfl (y_as rfl) ?_
  refine vc_y rfl rfl (y_as rfl) ?_
  refine vc_e (e_al (l := [_, _]) st rfl rfl Try.zeroValue27 rfl ?_)
  intro b4 w hb4 st
  refine vc_end ?_
  refine vq_then ?_
  refine vc_keep [(0, _), (4, _)] ⟨rfl, rfl, trivial⟩ ?_
  refine vc_seq ?_
  refine vc_seq ?_
  refine vc_region ?_
  refine vc_y rfl rfl (y_mv rfl) ?_
  refine vc_y rfl rfl (y_lens rfl Try.underlying9) ?_
  refine vc_y rfl rfl (y_gtr rfl rfl) ?_
  refine vc_end ?_
  refine vq_then ?_
  refine vc_keep [(0, _), (4, _), (10, _)] ⟨rfl, rfl, rfl, trivial⟩ ?_
  refine vc_ifs rfl ?_ ?_
  · intro hc10
    try simp only [decide_eq_true_eq, decide_eq_false_iff_not, Bool.not_eq_true', Bool.not_eq_false', Bool.not_eq_true, Bool.not_eq_false, Int.not_lt, Int.not_le, Nat.not_lt, Nat.not_le, Bool.not_true, Bool.not_false, Bool.true_eq_false, Bool.false_eq_true] at hc10
    refine vc_seq ?_
    refine vc_region ?_
    refine vc_y rfl rfl (y_bld (.agg #[_, _]) [] rfl (fun w => by simp [Instr.build, go_sem] <;> repeat' constructor)) ?_
    refine vc_y rfl rfl (y_as rfl) ?_
    refine vc_y rfl rfl (y_as rfl) ?_
    first
    | refine vc_e (e_sts (vs := [_, _]) st 0 rfl rfl rfl rfl rfl Try.sizeOf27 rfl rfl (by first | (right; assumption) | (left; simp)) ?_)
    | refine vc_e (e_sts (vs := [_, _]) st 1 rfl rfl rfl rfl rfl Try.sizeOf27 rfl rfl (by first | (right; assumption) | (left; simp)) ?_)
    | refine vc_e (e_sts (vs := [_, _]) st 2 rfl rfl rfl rfl rfl Try.sizeOf27 rfl rfl (by first | (right; assumption) | (left; simp)) ?_)
    | refine vc_e (e_sts (vs := [_, _]) st 3 rfl rfl rfl rfl rfl Try.sizeOf27 rfl rfl (by first | (right; assumption) | (left; simp)) ?_)
    intro w st; dsimp only [setNth, wr] at st
    refine vc_end ?_
    refine vq_then ?_
    refine vc_keep [(2, _), (3, _), (4, _)] ⟨rfl, rfl, rfl, trivial⟩ ?_
    refine vc_ret ?_
    refine vq_then_ret ?_
    refine vq_ret3 st (.inl rfl) Try.results22 (.tmp rfl) (.tmp rfl) (by first | exact .cell 0 rfl rfl Try.isAgg27 Try.sizeOf27 | exact .cell 1 rfl rfl Try.isAgg27 Try.sizeOf27 | exact .cell 2 rfl rfl Try.isAgg27 Try.sizeOf27 | exact .cell 3 rfl rfl Try.isAgg27 Try.sizeOf27) ?_
    refine ⟨_, rfl, ?_⟩
    have e : scanRes s = ([], 4, 0, 0) := by unfold scanRes; rw [if_pos (by omega)]
    refine ⟨st.chg, none, 0, ?_, ?_⟩
    · rw [e]; rfl
    · rw [e]; exact World.ownsRow_nil _ _ _ _
  · intro hc10
    try simp only [decide_eq_true_eq, decide_eq_false_iff_not, Bool.not_eq_true', Bool.not_eq_false', Bool.not_eq_true, Bool.not_eq_false, Int.not_lt, Int.not_le, Nat.not_lt, Nat.not_le, Bool.not_true, Bool.not_false, Bool.true_eq_false, Bool.false_eq_true] at hc10
    refine vc_code_skip ?_
    refine vq_then ?_
    refine vc_keep [(0, _), (4, _)] ⟨rfl, rfl, trivial⟩ ?_
    refine vc_seq ?_
    refine vc_region ?_
    refine vc_y rfl rfl (y_mv rfl) ?_
    refine vc_e (e_call [_] rfl rfl Try.call24 rfl (rfront_any s _ (by omega)) ?_)
    rintro _ w ⟨cw, oa, cap, rfl, how⟩
    replace st := st.pushOwn cw how
    refine vc_y rfl rfl (y_mv rfl) ?_
    refine vc_y rfl rfl (y_ext rfl rfl) ?_
    refine vc_y rfl rfl (y_ext rfl rfl) ?_
    refine vc_y rfl rfl (y_ext rfl rfl) ?_
    refine vc_y rfl rfl (y_as rfl) ?_
    refine vc_y rfl rfl (y_as rfl) ?_
    refine vc_y rfl rfl (y_as rfl) ?_
    refine vc_end ?_
    refine vq_then ?_
    refine vc_keep [(4, _), (5, _), (6, _), (7, _)] ⟨rfl, rfl, rfl, rfl, trivial⟩ ?_
    refine vc_seq ?_
    refine vc_seq ?_
    refine vc_region ?_
    refine vc_y rfl rfl (y_mv rfl) ?_
    refine vc_y rfl rfl (y_gtr rfl rfl) ?_
    refine vc_end ?_
    refine vq_then ?_
    refine vc_keep [(4, _), (5, _), (6, _), (7, _), (19, _)] ⟨rfl, rfl, rfl, rfl, rfl, trivial⟩ ?_
    refine vc_ifs rfl ?_ ?_
    · intro hc19
      try simp only [decide_eq_true_eq, decide_eq_false_iff_not, Bool.not_eq_true', Bool.not_eq_false', Bool.not_eq_true, Bool.not_eq_false, Int.not_lt, Int.not_le, Nat.not_lt, Nat.not_le, Bool.not_true, Bool.not_false, Bool.true_eq_false, Bool.false_eq_true] at hc19
      refine vc_seq ?_
      refine vc_region ?_
      refine vc_y rfl rfl (y_mv rfl) ?_
      refine vc_y rfl rfl (y_mv rfl) ?_
      refine vc_y rfl rfl (y_bld (.agg #[_, _]) [(0, _), (1, _)] rfl (fun w => by simp [Instr.build, go_sem] <;> repeat' constructor)) ?_
      refine vc_y rfl rfl (y_as rfl) ?_
      refine vc_y rfl rfl (y_as rfl) ?_
      first
      | refine vc_e (e_sts (vs := [_, _]) st 0 rfl rfl rfl rfl rfl Try.sizeOf27 rfl rfl (by first | (right; assumption) | (left; simp)) ?_)
      | refine vc_e (e_sts (vs := [_, _]) st 1 rfl rfl rfl rfl rfl Try.sizeOf27 rfl rfl (by first | (right; assumption) | (left; simp)) ?_)
      | refine vc_e (e_sts (vs := [_, _]) st 2 rfl rfl rfl rfl rfl Try.sizeOf27 rfl rfl (by first | (right; assumption) | (left; simp)) ?_)
      | refine vc_e (e_sts (vs := [_, _]) st 3 rfl rfl rfl rfl rfl Try.sizeOf27 rfl rfl (by first | (right; assumption) | (left; simp)) ?_)
      intro w st; dsimp only [setNth, wr] at st
      refine vc_end ?_
      refine vq_then ?_
      refine vc_keep [(2, _), (3, _), (4, _)] ⟨rfl, rfl, rfl, trivial⟩ ?_
      refine vc_ret ?_
      refine vq_then_ret ?_
      refine vq_ret3 st (.inl rfl) Try.results22 (.tmp rfl) (.tmp rfl) (by first | exact .cell 0 rfl rfl Try.isAgg27 Try.sizeOf27 | exact .cell 1 rfl rfl Try.isAgg27 Try.sizeOf27 | exact .cell 2 rfl rfl Try.isAgg27 Try.sizeOf27 | exact .cell 3 rfl rfl Try.isAgg27 Try.sizeOf27) ?_
      refine ⟨_, rfl, ?_⟩
      obtain ⟨r, q, hx⟩ : ∃ r q, (front s).2 = some (r, q) := by
        cases hx : (front s).2 with
        | none => rw [hx] at hc19; simp [fRule] at hc19
        | some x => exact ⟨x.1, x.2, rfl⟩
      have e : scanRes s = ([], 20, q, r) := by unfold scanRes; rw [if_neg (by omega), hx]
      refine ⟨st.chg, none, 0, ?_, ?_⟩
      · rw [e, hx]; rfl
      · rw [e]; exact World.ownsRow_nil _ _ _ _
    · intro hc19
      try simp only [decide_eq_true_eq, decide_eq_false_iff_not, Bool.not_eq_true', Bool.not_eq_false', Bool.not_eq_true, Bool.not_eq_false, Int.not_lt, Int.not_le, Nat.not_lt, Nat.not_le, Bool.not_true, Bool.not_false, Bool.true_eq_false, Bool.false_eq_true] at hc19
      refine vc_code_skip ?_
      refine vq_then ?_
      refine vc_keep [(4, _), (5, _)] ⟨rfl, rfl, trivial⟩ ?_
      refine vc_seq ?_
      refine vc_region ?_
      refine vc_y rfl rfl (y_mv rfl) ?_
      refine vc_y rfl rfl (y_bld (.agg #[_, _]) [] rfl (fun w => by simp [Instr.build, go_sem] <;> repeat' constructor)) ?_
      refine vc_y rfl rfl (y_as rfl) ?_
      refine vc_y rfl rfl (y_as rfl) ?_
      first
      | refine vc_e (e_sts (vs := [_, _]) st 0 rfl rfl rfl rfl rfl Try.sizeOf27 rfl rfl (by first | (right; assumption) | (left; simp)) ?_)
      | refine vc_e (e_sts (vs := [_, _]) st 1 rfl rfl rfl rfl rfl Try.sizeOf27 rfl rfl (by first | (right; assumption) | (left; simp)) ?_)
      | refine vc_e (e_sts (vs := [_, _]) st 2 rfl rfl rfl rfl rfl Try.sizeOf27 rfl rfl (by first | (right; assumption) | (left; simp)) ?_)
      | refine vc_e (e_sts (vs := [_, _]) st 3 rfl rfl rfl rfl rfl Try.sizeOf27 rfl rfl (by first | (right; assumption) | (left; simp)) ?_)
      intro w st; dsimp only [setNth, wr] at st
      refine vc_end ?_
      refine vq_then ?_
      refine vc_keep [(2, _), (3, _), (4, _)] ⟨rfl, rfl, rfl, trivial⟩ ?_
      refine vc_ret ?_
      refine vq_ret3 st (.inl rfl) Try.results22 (.tmp rfl) (.tmp rfl) (by first | exact .cell 0 rfl rfl Try.isAgg27 Try.sizeOf27 | exact .cell 1 rfl rfl Try.isAgg27 Try.sizeOf27 | exact .cell 2 rfl rfl Try.isAgg27 Try.sizeOf27 | exact .cell 3 rfl rfl Try.isAgg27 Try.sizeOf27) ?_
      refine ⟨_, rfl, ?_⟩
      have hx : (front s).2 = none := by
        cases hx : (front s).2 with
        | none => rfl
        | some x => have := frontFault (s := s) (r := x.1) (p := x.2) hx; rw [hx] at hc19; simp only [fRule] at hc19; omega
      have e : scanRes s = ((front s).1, 0, 0, 0) := by unfold scanRes; rw [if_neg (by omega), hx]
      refine ⟨st.chg, oa, cap, ?_, ?_⟩
      · rw [e]; rfl
      · rw [e]; exact st.res (i := 0) rfl

set_option maxHeartbeats 2000000 in
theorem rsame_any (A B : List TV) (oa ob : Option Addr) (ca cb : Nat) (p : Bool) (w : World) (ha : IsToks w oa A) (hb : IsToks w ob B) (hA : A.length ≤ maxLen) : Ret Try.prog 23 [.slice oa A.length ca, .slice ob B.length cb, .bool p] w fun v w' => (∃ r : Bool, v = .bool r ∧ (r = true ↔ SameP p A B)) ∧ Chg [] w w' := by
  refine ret_of [_, _, _] Try.func23 rfl Try.ntmps23 rfl ?_
  have st := St.init w []
  refine vc_seq ?_
  refine vc_region ?_
  refine vc_y rfl rfl (y_as rfl) ?_
  refine vc_end ?_
  refine vq_then ?_
  refine vc_keep [(0, _), (1, _), (2, _)] ⟨rfl, rfl, rfl, trivial⟩ ?_
  refine vc_seq ?_
  refine vc_seq ?_
  refine vc_region ?_
  refine vc_y rfl rfl (y_mv rfl) ?_
  refine vc_y rfl rfl (y_lensl rfl Try.underlying24) ?_
  refine vc_y rfl rfl (y_mv rfl) ?_
  refine vc_y rfl rfl (y_lensl rfl Try.underlying24) ?_
  refine vc_y rfl rfl (y_nei rfl rfl) ?_
  refine vc_end ?_
  refine vq_then ?_
  refine vc_keep [(0, _), (1, _), (2, _), (12, _)] ⟨rfl, rfl, rfl, rfl, trivial⟩ ?_
  refine vc_ifs rfl ?_ ?_
  · intro hc12
    try simp only [decide_eq_true_eq, decide_eq_false_iff_not, Bool.not_eq_true', Bool.not_eq_false', Bool.not_eq_true, Bool.not_eq_false, Int.not_lt, Int.not_le, Nat.not_lt, Nat.not_le, Bool.not_true, Bool.not_false, Bool.true_eq_false, Bool.false_eq_true] at hc12
    refine vc_seq ?_
    refine vc_region ?_
    refine vc_y rfl rfl (y_as rfl) ?_
    refine vc_end ?_
    refine vq_then ?_
    refine vc_keep [(6, _)] ⟨rfl, trivial⟩ ?_
    refine vc_ret ?_
    refine vq_then_ret ?_
    refine vq_ret1 st (.inl rfl) Try.results23 (.tmp rfl) ?_
    refine ⟨_, rfl, ?_⟩
    refine ⟨⟨_, rfl, ?_⟩, st.chg⟩
    first
    | (simp only [Bool.false_eq_true, false_iff]; rintro ⟨h1, _⟩; omega)
    | (simp only [Bool.false_eq_true, false_iff]; rintro ⟨_, h⟩; obtain ⟨e1, e2, e3, e4⟩ := h j (by omega); simp_all; done)
    | (simp only [true_iff]; exact ⟨hAB, fun i hi => hall i (by omega)⟩)
  · intro hc12
    try simp only [decide_eq_true_eq, decide_eq_false_iff_not, Bool.not_eq_true', Bool.not_eq_false', Bool.not_eq_true, Bool.not_eq_false, Int.not_lt, Int.not_le, Nat.not_lt, Nat.not_le, Bool.not_true, Bool.not_false, Bool.true_eq_false, Bool.false_eq_true] at hc12
    unfold maxLen at hA
    have hAB : A.length = B.length := by omega
    refine vc_code_skip ?_
    refine vq_then ?_
    refine vc_keep [(0, _), (1, _), (2, _)] ⟨rfl, rfl, rfl, trivial⟩ ?_
    refine vc_seq ?_
    refine vc_seq ?_
    refine vc_region ?_
    refine vc_y rfl rfl (y_as rfl) ?_
    refine vc_end ?_
    refine vq_then ?_
    refine vc_keep [(0, _), (1, _), (2, _), (7, _)] ⟨rfl, rfl, rfl, rfl, trivial⟩ ?_
    refine vc_block ?_
    refine vc_loop (w0 := _) (M := _) (fun (j : Nat) => [(0, .slice oa A.length ca), (1, .slice ob B.length cb), (2, .bool p), (7, .int .i64 (j : Int))]) (fun _ => []) (fun j w' => j ≤ A.length ∧ ∀ i, i < j → EqT p (A.getD i tv0) (B.getD i tv0)) (fun j => A.length - j) 0 ⟨rfl, rfl, rfl, rfl, trivial⟩ st ⟨by omega, fun i hi => by omega⟩ ?_
    rintro j w ⟨hj, hall⟩ st
    refine vc_seq ?_
    refine vc_seq ?_
    refine vc_region ?_
    refine vc_y rfl rfl (y_mv rfl) ?_
    refine vc_y rfl rfl (y_mv rfl) ?_
    refine vc_y rfl rfl (y_lensl rfl Try.underlying24) ?_
    refine vc_y rfl rfl (y_lss rfl rfl) ?_
    refine vc_end ?_
    refine vq_then ?_
    refine vc_keep [(0, _), (1, _), (2, _), (7, _), (16, _)] ⟨rfl, rfl, rfl, rfl, rfl, trivial⟩ ?_
    refine vc_ifs rfl ?_ ?_
    · intro hc16
      try simp only [decide_eq_true_eq, decide_eq_false_iff_not, Bool.not_eq_true', Bool.not_eq_false', Bool.not_eq_true, Bool.not_eq_false, Int.not_lt, Int.not_le, Nat.not_lt, Nat.not_le, Bool.not_true, Bool.not_false, Bool.true_eq_false, Bool.false_eq_true] at hc16
      obtain ⟨ga, fa, rfl, hta⟩ := ha.resolve_left (by intro h; have := congrArg List.length h; simp only [List.length_nil] at this; omega)
      obtain ⟨gb, fb, rfl, htb⟩ := hb.resolve_left (by intro h; have := congrArg List.length h; simp only [List.length_nil] at this; omega)
      refine vc_code_skip ?_
      refine vq_then ?_
      refine vc_keep [(0, _), (1, _), (2, _), (7, _)] ⟨rfl, rfl, rfl, rfl, trivial⟩ ?_
      refine vc_seq ?_
      refine vc_block ?_
      refine vc_seq ?_
      refine vc_draw Try.mixed [(0, true), (1, true), (2, true), (3, true), (4, true), (5, true), (6, true), (7, true), (8, true), (9, true), (10, true), (11, true), (12, true), (13, true), (14, true), (15, true), (16, true), (17, true), (18, true), (19, true), (20, true), (21, true), (22, true), (23, true), (24, true), (25, true), (26, true), (27, true), (28, true), (29, true), (30, true), (31, true), (32, true), (33, true), (34, true), (35, true), (36, true), (37, true), (38, true), (39, true), (40, true), (41, true), (42, true), (43, true), (44, true), (45, true), (46, true), (47, true), (48, true), (49, true), (50, true), (51, true), (52, true)] (fun w => St _ _ _ w) st (by kernel_rfl) (by repeat (first | exact okQ_body | refine okQ_then ?_ | refine okQ_block ?_)) rfl (by kernel_rfl) ?_
      intro w cd; replace st := st.call0 cd; clear cd
      have hS := st
      refine vp_take rfl rfl rfl hS (fun w st => y_mv rfl) ?_
      refine vp_take rfl rfl rfl hS (fun w st => y_mv rfl) ?_
      refine vp_take rfl rfl rfl hS (fun w st => (by first | exact y_ia0 (k := j) rfl rfl Try.underlying24 Try.sizeOf33 rfl (by omega) | exact y_ia (k := j) rfl rfl Try.underlying24 Try.sizeOf33 rfl (by omega))) ?_
      refine vp_take rfl rfl rfl hS (fun w st => y_fa0 rfl Try.underlying33 rfl rfl Try.sizeOf31 rfl) ?_
      refine vp_take rfl rfl rfl hS (fun w st => (by first | exact y_ldc rfl Try.isAgg31 (st.chg.cell (hta j (by omega)).1 (by simp)) | exact y_ld st 0 rfl Try.isAgg31 rfl rfl)) ?_
      refine vp_take rfl rfl rfl hS (fun w st => y_mv rfl) ?_
      refine vp_take rfl rfl rfl hS (fun w st => y_mv rfl) ?_
      refine vp_take rfl rfl rfl hS (fun w st => (by first | exact y_ia0 (k := j) rfl rfl Try.underlying24 Try.sizeOf33 rfl (by omega) | exact y_ia (k := j) rfl rfl Try.underlying24 Try.sizeOf33 rfl (by omega))) ?_
      refine vp_take rfl rfl rfl hS (fun w st => y_fa0 rfl Try.underlying33 rfl rfl Try.sizeOf31 rfl) ?_
      refine vp_take rfl rfl rfl hS (fun w st => (by first | exact y_ldc rfl Try.isAgg31 (st.chg.cell (htb j (by omega)).1 (by simp)) | exact y_ld st 0 rfl Try.isAgg31 rfl rfl)) ?_
      refine vp_take rfl rfl rfl hS (fun w st => y_nei rfl rfl) ?_
      refine vp_part rfl rfl rfl hS rfl ?_ ?_
      · intro hg30
        try simp only [decide_eq_true_eq, decide_eq_false_iff_not, Bool.not_eq_true', Bool.not_eq_false', Bool.not_eq_true, Bool.not_eq_false, Int.not_lt, Int.not_le, Nat.not_lt, Nat.not_le, Bool.not_true, Bool.not_false, Bool.true_eq_false, Bool.false_eq_true] at hg30
        refine vp_skip rfl rfl rfl hS ?_
        refine vp_skip rfl rfl rfl hS ?_
        refine vp_skip rfl rfl rfl hS ?_
        refine vp_skip rfl rfl rfl hS ?_
        refine vp_skip rfl rfl rfl hS ?_
        refine vp_skip rfl rfl rfl hS ?_
        refine vp_skip rfl rfl rfl hS ?_
        refine vp_skip rfl rfl rfl hS ?_
        refine vp_skip rfl rfl rfl hS ?_
        refine vp_skip rfl rfl rfl hS ?_
        refine vp_skip rfl rfl rfl hS ?_
        refine vp_take rfl rfl rfl hS (fun w st => y_pickt rfl rfl) ?_
        refine vp_take rfl rfl rfl hS (fun w st => y_mv rfl) ?_
        refine vp_skip rfl rfl rfl hS ?_
        refine vp_skip rfl rfl rfl hS ?_
        refine vp_skip rfl rfl rfl hS ?_
        refine vp_skip rfl rfl rfl hS ?_
        refine vp_skip rfl rfl rfl hS ?_
        refine vp_skip rfl rfl rfl hS ?_
        refine vp_skip rfl rfl rfl hS ?_
        refine vp_skip rfl rfl rfl hS ?_
        refine vp_skip rfl rfl rfl hS ?_
        refine vp_skip rfl rfl rfl hS ?_
        refine vp_skip rfl rfl rfl hS ?_
        refine vp_take rfl rfl rfl hS (fun w st => y_pickt rfl rfl) ?_
        refine vp_take rfl rfl rfl hS (fun w st => y_mv rfl) ?_
        refine vp_skip rfl rfl rfl hS ?_
        refine vp_skip rfl rfl rfl hS ?_
        refine vp_skip rfl rfl rfl hS ?_
        refine vp_skip rfl rfl rfl hS ?_
        refine vp_skip rfl rfl rfl hS ?_
        refine vp_skip rfl rfl rfl hS ?_
        refine vp_skip rfl rfl rfl hS ?_
        refine vp_skip rfl rfl rfl hS ?_
        refine vp_skip rfl rfl rfl hS ?_
        refine vp_skip rfl rfl rfl hS ?_
        refine vp_skip rfl rfl rfl hS ?_
        refine vp_skip rfl rfl rfl hS ?_
        refine vp_skip rfl rfl rfl hS ?_
        refine vp_skip rfl rfl rfl hS ?_
        refine vp_take rfl rfl rfl hS (fun w st => y_pickt rfl rfl) ?_
        refine vp_end ?_
        refine vq_then ?_
        refine vc_keep [(0, _), (1, _), (2, _), (7, _), (71, _)] ⟨rfl, rfl, rfl, rfl, rfl, trivial⟩ ?_
        refine vc_ift rfl ?_
        refine vc_seq ?_
        refine vc_region ?_
        refine vc_y rfl rfl (y_as rfl) ?_
        refine vc_end ?_
        refine vq_then ?_
        refine vc_keep [(6, _)] ⟨rfl, trivial⟩ ?_
        refine vc_ret ?_
        refine vq_block_ret ?_
        refine vq_then_ret ?_
        refine vq_then_ret ?_
        refine vq_block_ret ?_
        refine vq_then_ret ?_
        refine vq_ret1 st (.inl rfl) Try.results23 (.tmp rfl) ?_
        refine ⟨_, rfl, ?_⟩
        refine ⟨⟨_, rfl, ?_⟩, st.chg⟩
        first
        | (simp only [Bool.false_eq_true, false_iff]; rintro ⟨h1, _⟩; omega)
        | (simp only [Bool.false_eq_true, false_iff]; rintro ⟨_, h⟩; obtain ⟨e1, e2, e3, e4⟩ := h j (by omega); simp_all; done)
        | (simp only [true_iff]; exact ⟨hAB, fun i hi => hall i (by omega)⟩)
      · intro hg30
        try simp only [decide_eq_true_eq, decide_eq_false_iff_not, Bool.not_eq_true', Bool.not_eq_false', Bool.not_eq_true, Bool.not_eq_false, Int.not_lt, Int.not_le, Nat.not_lt, Nat.not_le, Bool.not_true, Bool.not_false, Bool.true_eq_false, Bool.false_eq_true] at hg30
        refine vp_take rfl rfl rfl hS (fun w st => y_mv rfl) ?_
        refine vp_take rfl rfl rfl hS (fun w st => y_mv rfl) ?_
        refine vp_take rfl rfl rfl hS (fun w st => (by first | exact y_ia0 (k := j) rfl rfl Try.underlying24 Try.sizeOf33 rfl (by omega) | exact y_ia (k := j) rfl rfl Try.underlying24 Try.sizeOf33 rfl (by omega))) ?_
        refine vp_take rfl rfl rfl hS (fun w st => (by first | exact y_faz (k := 1) rfl Try.underlying33 rfl rfl Try.sizeOf9 rfl | exact y_fa (k := 1) rfl Try.underlying33 rfl rfl Try.sizeOf9 rfl)) ?_
        refine vp_take rfl rfl rfl hS (fun w st => (by first | exact y_ldc rfl Try.isAgg9 (st.chg.cell (hta j (by omega)).2.1 (by simp)) | exact y_ld st 0 rfl Try.isAgg9 rfl rfl)) ?_
        refine vp_take rfl rfl rfl hS (fun w st => y_mv rfl) ?_
        refine vp_take rfl rfl rfl hS (fun w st => y_mv rfl) ?_
        refine vp_take rfl rfl rfl hS (fun w st => (by first | exact y_ia0 (k := j) rfl rfl Try.underlying24 Try.sizeOf33 rfl (by omega) | exact y_ia (k := j) rfl rfl Try.underlying24 Try.sizeOf33 rfl (by omega))) ?_
        refine vp_take rfl rfl rfl hS (fun w st => (by first | exact y_faz (k := 1) rfl Try.underlying33 rfl rfl Try.sizeOf9 rfl | exact y_fa (k := 1) rfl Try.underlying33 rfl rfl Try.sizeOf9 rfl)) ?_
        refine vp_take rfl rfl rfl hS (fun w st => (by first | exact y_ldc rfl Try.isAgg9 (st.chg.cell (htb j (by omega)).2.1 (by simp)) | exact y_ld st 0 rfl Try.isAgg9 rfl rfl)) ?_
        refine vp_take rfl rfl rfl hS (fun w st => y_nes rfl rfl) ?_
        refine vp_take rfl rfl rfl hS (fun w st => y_pickf rfl rfl) ?_
        refine vp_part rfl rfl rfl hS rfl ?_ ?_
        · intro hg43
          try simp only [decide_eq_true_eq, decide_eq_false_iff_not, Bool.not_eq_true', Bool.not_eq_false', Bool.not_eq_true, Bool.not_eq_false, Int.not_lt, Int.not_le, Nat.not_lt, Nat.not_le, Bool.not_true, Bool.not_false, Bool.true_eq_false, Bool.false_eq_true] at hg43
          refine vp_skip rfl rfl rfl hS ?_
          refine vp_skip rfl rfl rfl hS ?_
          refine vp_skip rfl rfl rfl hS ?_
          refine vp_skip rfl rfl rfl hS ?_
          refine vp_skip rfl rfl rfl hS ?_
          refine vp_skip rfl rfl rfl hS ?_
          refine vp_skip rfl rfl rfl hS ?_
          refine vp_skip rfl rfl rfl hS ?_
          refine vp_skip rfl rfl rfl hS ?_
          refine vp_skip rfl rfl rfl hS ?_
          refine vp_skip rfl rfl rfl hS ?_
          refine vp_take rfl rfl rfl hS (fun w st => y_pickt rfl rfl) ?_
          refine vp_take rfl rfl rfl hS (fun w st => y_mv rfl) ?_
          refine vp_skip rfl rfl rfl hS ?_
          refine vp_skip rfl rfl rfl hS ?_
          refine vp_skip rfl rfl rfl hS ?_
          refine vp_skip rfl rfl rfl hS ?_
          refine vp_skip rfl rfl rfl hS ?_
          refine vp_skip rfl rfl rfl hS ?_
          refine vp_skip rfl rfl rfl hS ?_
          refine vp_skip rfl rfl rfl hS ?_
          refine vp_skip rfl rfl rfl hS ?_
          refine vp_skip rfl rfl rfl hS ?_
          refine vp_skip rfl rfl rfl hS ?_
          refine vp_skip rfl rfl rfl hS ?_
          refine vp_skip rfl rfl rfl hS ?_
          refine vp_skip rfl rfl rfl hS ?_
          refine vp_take rfl rfl rfl hS (fun w st => y_pickt rfl rfl) ?_
          refine vp_end ?_
          refine vq_then ?_
          refine vc_keep [(0, _), (1, _), (2, _), (7, _), (71, _)] ⟨rfl, rfl, rfl, rfl, rfl, trivial⟩ ?_
          refine vc_ift rfl ?_
          refine vc_seq ?_
          refine vc_region ?_
          refine vc_y rfl rfl (y_as rfl) ?_
          refine vc_end ?_
          refine vq_then ?_
          refine vc_keep [(6, _)] ⟨rfl, trivial⟩ ?_
          refine vc_ret ?_
          refine vq_block_ret ?_
          refine vq_then_ret ?_
          refine vq_then_ret ?_
          refine vq_block_ret ?_
          refine vq_then_ret ?_
          refine vq_ret1 st (.inl rfl) Try.results23 (.tmp rfl) ?_
          refine ⟨_, rfl, ?_⟩
          refine ⟨⟨_, rfl, ?_⟩, st.chg⟩
          first
          | (simp only [Bool.false_eq_true, false_iff]; rintro ⟨h1, _⟩; omega)
          | (simp only [Bool.false_eq_true, false_iff]; rintro ⟨_, h⟩; obtain ⟨e1, e2, e3, e4⟩ := h j (by omega); simp_all; done)
          | (simp only [true_iff]; exact ⟨hAB, fun i hi => hall i (by omega)⟩)
        · intro hg43
          try simp only [decide_eq_true_eq, decide_eq_false_iff_not, Bool.not_eq_true', Bool.not_eq_false', Bool.not_eq_true, Bool.not_eq_false, Int.not_lt, Int.not_le, Nat.not_lt, Nat.not_le, Bool.not_true, Bool.not_false, Bool.true_eq_false, Bool.false_eq_true] at hg43
          refine vp_take rfl rfl rfl hS (fun w st => y_mv rfl) ?_
          refine vp_take rfl rfl rfl hS (fun w st => y_mv rfl) ?_
          refine vp_take rfl rfl rfl hS (fun w st => (by first | exact y_ia0 (k := j) rfl rfl Try.underlying24 Try.sizeOf33 rfl (by omega) | exact y_ia (k := j) rfl rfl Try.underlying24 Try.sizeOf33 rfl (by omega))) ?_
          refine vp_take rfl rfl rfl hS (fun w st => (by first | exact y_faz (k := 2) rfl Try.underlying33 rfl rfl Try.sizeOf2 rfl | exact y_fa (k := 2) rfl Try.underlying33 rfl rfl Try.sizeOf2 rfl)) ?_
          refine vp_take rfl rfl rfl hS (fun w st => (by first | exact y_ldc rfl Try.isAgg2 (st.chg.cell (hta j (by omega)).2.2.1 (by simp)) | exact y_ld st 0 rfl Try.isAgg2 rfl rfl)) ?_
          refine vp_take rfl rfl rfl hS (fun w st => y_mv rfl) ?_
          refine vp_take rfl rfl rfl hS (fun w st => y_mv rfl) ?_
          refine vp_take rfl rfl rfl hS (fun w st => (by first | exact y_ia0 (k := j) rfl rfl Try.underlying24 Try.sizeOf33 rfl (by omega) | exact y_ia (k := j) rfl rfl Try.underlying24 Try.sizeOf33 rfl (by omega))) ?_
          refine vp_take rfl rfl rfl hS (fun w st => (by first | exact y_faz (k := 2) rfl Try.underlying33 rfl rfl Try.sizeOf2 rfl | exact y_fa (k := 2) rfl Try.underlying33 rfl rfl Try.sizeOf2 rfl)) ?_
          refine vp_take rfl rfl rfl hS (fun w st => (by first | exact y_ldc rfl Try.isAgg2 (st.chg.cell (htb j (by omega)).2.2.1 (by simp)) | exact y_ld st 0 rfl Try.isAgg2 rfl rfl)) ?_
          refine vp_take rfl rfl rfl hS (fun w st => y_nei rfl rfl) ?_
          refine vp_take rfl rfl rfl hS (fun w st => y_pickf rfl rfl) ?_
          refine vp_part rfl rfl rfl hS rfl ?_ ?_
          · intro hg56
            try simp only [decide_eq_true_eq, decide_eq_false_iff_not, Bool.not_eq_true', Bool.not_eq_false', Bool.not_eq_true, Bool.not_eq_false, Int.not_lt, Int.not_le, Nat.not_lt, Nat.not_le, Bool.not_true, Bool.not_false, Bool.true_eq_false, Bool.false_eq_true] at hg56
            refine vp_skip rfl rfl rfl hS ?_
            refine vp_skip rfl rfl rfl hS ?_
            refine vp_skip rfl rfl rfl hS ?_
            refine vp_skip rfl rfl rfl hS ?_
            refine vp_skip rfl rfl rfl hS ?_
            refine vp_skip rfl rfl rfl hS ?_
            refine vp_skip rfl rfl rfl hS ?_
            refine vp_skip rfl rfl rfl hS ?_
            refine vp_skip rfl rfl rfl hS ?_
            refine vp_skip rfl rfl rfl hS ?_
            refine vp_skip rfl rfl rfl hS ?_
            refine vp_skip rfl rfl rfl hS ?_
            refine vp_skip rfl rfl rfl hS ?_
            refine vp_skip rfl rfl rfl hS ?_
            refine vp_take rfl rfl rfl hS (fun w st => y_pickt rfl rfl) ?_
            refine vp_end ?_
            refine vq_then ?_
            refine vc_keep [(0, _), (1, _), (2, _), (7, _), (71, _)] ⟨rfl, rfl, rfl, rfl, rfl, trivial⟩ ?_
            refine vc_ift rfl ?_
            refine vc_seq ?_
            refine vc_region ?_
            refine vc_y rfl rfl (y_as rfl) ?_
            refine vc_end ?_
            refine vq_then ?_
            refine vc_keep [(6, _)] ⟨rfl, trivial⟩ ?_
            refine vc_ret ?_
            refine vq_block_ret ?_
            refine vq_then_ret ?_
            refine vq_then_ret ?_
            refine vq_block_ret ?_
            refine vq_then_ret ?_
            refine vq_ret1 st (.inl rfl) Try.results23 (.tmp rfl) ?_
            refine ⟨_, rfl, ?_⟩
            refine ⟨⟨_, rfl, ?_⟩, st.chg⟩
            first
            | (simp only [Bool.false_eq_true, false_iff]; rintro ⟨h1, _⟩; omega)
            | (simp only [Bool.false_eq_true, false_iff]; rintro ⟨_, h⟩; obtain ⟨e1, e2, e3, e4⟩ := h j (by omega); simp_all; done)
            | (simp only [true_iff]; exact ⟨hAB, fun i hi => hall i (by omega)⟩)
          · intro hg56
            try simp only [decide_eq_true_eq, decide_eq_false_iff_not, Bool.not_eq_true', Bool.not_eq_false', Bool.not_eq_true, Bool.not_eq_false, Int.not_lt, Int.not_le, Nat.not_lt, Nat.not_le, Bool.not_true, Bool.not_false, Bool.true_eq_false, Bool.false_eq_true] at hg56
            refine vp_take rfl rfl rfl hS (fun w st => y_mv rfl) ?_
            refine vp_part rfl rfl rfl hS rfl ?_ ?_
            · intro hg58
              try simp only [decide_eq_true_eq, decide_eq_false_iff_not, Bool.not_eq_true', Bool.not_eq_false', Bool.not_eq_true, Bool.not_eq_false, Int.not_lt, Int.not_le, Nat.not_lt, Nat.not_le, Bool.not_true, Bool.not_false, Bool.true_eq_false, Bool.false_eq_true] at hg58
              refine vp_take rfl rfl rfl hS (fun w st => y_mv rfl) ?_
              refine vp_take rfl rfl rfl hS (fun w st => y_mv rfl) ?_
              refine vp_take rfl rfl rfl hS (fun w st => (by first | exact y_ia0 (k := j) rfl rfl Try.underlying24 Try.sizeOf33 rfl (by omega) | exact y_ia (k := j) rfl rfl Try.underlying24 Try.sizeOf33 rfl (by omega))) ?_
              refine vp_take rfl rfl rfl hS (fun w st => (by first | exact y_faz (k := 3) rfl Try.underlying33 rfl rfl Try.sizeOf3 rfl | exact y_fa (k := 3) rfl Try.underlying33 rfl rfl Try.sizeOf3 rfl)) ?_
              refine vp_take rfl rfl rfl hS (fun w st => (by first | exact y_ldc rfl Try.isAgg3 (st.chg.cell (hta j (by omega)).2.2.2 (by simp)) | exact y_ld st 0 rfl Try.isAgg3 rfl rfl)) ?_
              refine vp_take rfl rfl rfl hS (fun w st => y_mv rfl) ?_
              refine vp_take rfl rfl rfl hS (fun w st => y_mv rfl) ?_
              refine vp_take rfl rfl rfl hS (fun w st => (by first | exact y_ia0 (k := j) rfl rfl Try.underlying24 Try.sizeOf33 rfl (by omega) | exact y_ia (k := j) rfl rfl Try.underlying24 Try.sizeOf33 rfl (by omega))) ?_
              refine vp_take rfl rfl rfl hS (fun w st => (by first | exact y_faz (k := 3) rfl Try.underlying33 rfl rfl Try.sizeOf3 rfl | exact y_fa (k := 3) rfl Try.underlying33 rfl rfl Try.sizeOf3 rfl)) ?_
              refine vp_take rfl rfl rfl hS (fun w st => (by first | exact y_ldc rfl Try.isAgg3 (st.chg.cell (htb j (by omega)).2.2.2 (by simp)) | exact y_ld st 0 rfl Try.isAgg3 rfl rfl)) ?_
              refine vp_take rfl rfl rfl hS (fun w st => y_nei rfl rfl) ?_
              refine vp_take rfl rfl rfl hS (fun w st => y_pickt rfl rfl) ?_
              refine vp_take rfl rfl rfl hS (fun w st => y_pickf rfl rfl) ?_
              refine vp_end ?_
              refine vq_then ?_
              refine vc_keep [(0, _), (1, _), (2, _), (7, _), (71, _)] ⟨rfl, rfl, rfl, rfl, rfl, trivial⟩ ?_
              refine vc_ifs rfl ?_ ?_
              · intro hc71
                try simp only [decide_eq_true_eq, decide_eq_false_iff_not, Bool.not_eq_true', Bool.not_eq_false', Bool.not_eq_true, Bool.not_eq_false, Int.not_lt, Int.not_le, Nat.not_lt, Nat.not_le, Bool.not_true, Bool.not_false, Bool.true_eq_false, Bool.false_eq_true] at hc71
                refine vc_seq ?_
                refine vc_region ?_
                refine vc_y rfl rfl (y_as rfl) ?_
                refine vc_end ?_
                refine vq_then ?_
                refine vc_keep [(6, _)] ⟨rfl, trivial⟩ ?_
                refine vc_ret ?_
                refine vq_block_ret ?_
                refine vq_then_ret ?_
                refine vq_then_ret ?_
                refine vq_block_ret ?_
                refine vq_then_ret ?_
                refine vq_ret1 st (.inl rfl) Try.results23 (.tmp rfl) ?_
                refine ⟨_, rfl, ?_⟩
                refine ⟨⟨_, rfl, ?_⟩, st.chg⟩
                first
                | (simp only [Bool.false_eq_true, false_iff]; rintro ⟨h1, _⟩; omega)
                | (simp only [Bool.false_eq_true, false_iff]; rintro ⟨_, h⟩; obtain ⟨e1, e2, e3, e4⟩ := h j (by omega); simp_all; done)
                | (simp only [true_iff]; exact ⟨hAB, fun i hi => hall i (by omega)⟩)
              · intro hc71
                try simp only [decide_eq_true_eq, decide_eq_false_iff_not, Bool.not_eq_true', Bool.not_eq_false', Bool.not_eq_true, Bool.not_eq_false, Int.not_lt, Int.not_le, Nat.not_lt, Nat.not_le, Bool.not_true, Bool.not_false, Bool.true_eq_false, Bool.false_eq_true] at hc71
                refine vc_code_skip ?_
                refine vq_block ?_
                refine vq_then ?_
                refine vc_keep [(0, _), (1, _), (2, _), (7, _)] ⟨rfl, rfl, rfl, rfl, trivial⟩ ?_
                refine vc_region ?_
                refine vc_y rfl rfl (y_mv rfl) ?_
                refine vc_y rfl rfl (y_add rfl rfl rfl (by omega) (by omega)) ?_
                refine vc_y rfl rfl (y_as rfl) ?_
                refine vc_end ?_
                refine vq_again (j + 1) ⟨rfl, rfl, rfl, rfl, trivial⟩ st ?_ ?_
                · exact ⟨by omega, fun i hi => by
                    rcases Nat.lt_or_ge i j with h | h
                    · exact hall i h
                    · obtain rfl : i = j := by omega
                      exact ⟨by assumption, by assumption, by assumption, fun h => by first | assumption | simp_all⟩⟩
                · omega
            · intro hg58
              try simp only [decide_eq_true_eq, decide_eq_false_iff_not, Bool.not_eq_true', Bool.not_eq_false', Bool.not_eq_true, Bool.not_eq_false, Int.not_lt, Int.not_le, Nat.not_lt, Nat.not_le, Bool.not_true, Bool.not_false, Bool.true_eq_false, Bool.false_eq_true] at hg58
              refine vp_skip rfl rfl rfl hS ?_
              refine vp_skip rfl rfl rfl hS ?_
              refine vp_skip rfl rfl rfl hS ?_
              refine vp_skip rfl rfl rfl hS ?_
              refine vp_skip rfl rfl rfl hS ?_
              refine vp_skip rfl rfl rfl hS ?_
              refine vp_skip rfl rfl rfl hS ?_
              refine vp_skip rfl rfl rfl hS ?_
              refine vp_skip rfl rfl rfl hS ?_
              refine vp_skip rfl rfl rfl hS ?_
              refine vp_skip rfl rfl rfl hS ?_
              refine vp_take rfl rfl rfl hS (fun w st => y_pickf rfl rfl) ?_
              refine vp_take rfl rfl rfl hS (fun w st => y_pickf rfl rfl) ?_
              refine vp_end ?_
              refine vq_then ?_
              refine vc_keep [(0, _), (1, _), (2, _), (7, _), (71, _)] ⟨rfl, rfl, rfl, rfl, rfl, trivial⟩ ?_
              refine vc_iff rfl ?_
              refine vc_code_skip ?_
              refine vq_block ?_
              refine vq_then ?_
              refine vc_keep [(0, _), (1, _), (2, _), (7, _)] ⟨rfl, rfl, rfl, rfl, trivial⟩ ?_
              refine vc_region ?_
              refine vc_y rfl rfl (y_mv rfl) ?_
              refine vc_y rfl rfl (y_add rfl rfl rfl (by omega) (by omega)) ?_
              refine vc_y rfl rfl (y_as rfl) ?_
              refine vc_end ?_
              refine vq_again (j + 1) ⟨rfl, rfl, rfl, rfl, trivial⟩ st ?_ ?_
              · exact ⟨by omega, fun i hi => by
                  rcases Nat.lt_or_ge i j with h | h
                  · exact hall i h
                  · obtain rfl : i = j := by omega
                    exact ⟨by assumption, by assumption, by assumption, fun h => by first | assumption | simp_all⟩⟩
              · omega
    · intro hc16
      try simp only [decide_eq_true_eq, decide_eq_false_iff_not, Bool.not_eq_true', Bool.not_eq_false', Bool.not_eq_true, Bool.not_eq_false, Int.not_lt, Int.not_le, Nat.not_lt, Nat.not_le, Bool.not_true, Bool.not_false, Bool.true_eq_false, Bool.false_eq_true] at hc16
      refine vc_exit ?_
      refine vq_then_exit ?_
      refine vq_then_exit ?_
      refine vq_block_exit ?_
      refine vq_then ?_
      refine vc_keep [] trivial ?_
      refine vc_seq ?_
      refine vc_region ?_
      refine vc_y rfl rfl (y_as rfl) ?_
      refine vc_end ?_
      refine vq_then ?_
      refine vc_keep [(6, _)] ⟨rfl, trivial⟩ ?_
      refine vc_ret ?_
      refine vq_ret1 st (.inl rfl) Try.results23 (.tmp rfl) ?_
      refine ⟨_, rfl, ?_⟩
      refine ⟨⟨_, rfl, ?_⟩, st.chg⟩
      first
      | (simp only [Bool.false_eq_true, false_iff]; rintro ⟨h1, _⟩; omega)
      | (simp only [Bool.false_eq_true, false_iff]; rintro ⟨_, h⟩; obtain ⟨e1, e2, e3, e4⟩ := h j (by omega); simp_all; done)
      | (simp only [true_iff]; exact ⟨hAB, fun i hi => hall i (by omega)⟩)

theorem Ret.ex {P : Program} {f : FuncId} {vals : List Value} {w : World} {Φ : Value → World → Prop} (h : Ret P f vals w Φ) : Ret P f vals w Φ := h

set_option maxHeartbeats 1000000 in
theorem lawLexerScans (l : List UInt8) (hl : l.length ≤ maxLen) (w : World) : Ret Try.prog 4 [str l] w fun v w' => v = .bool true ∧ Chg [] w w' := by
  refine ret_of [_] Try.func4 rfl Try.ntmps4 rfl ?_
  have st := St.init w []
  refine vc_seq ?_
  refine vc_region ?_
  refine vc_y rfl rfl (y_as rfl) ?_
  refine vc_end ?_
  refine vq_then ?_
  refine vc_keep [(0, _)] ⟨rfl, trivial⟩ ?_
  refine vc_seq ?_
  refine vc_region ?_
  refine vc_y rfl rfl (y_mv rfl) ?_
  refine vc_e (e_call [_] rfl rfl Try.call21 rfl (scan_any l _) ?_)
  rintro _ w ⟨cw, oa, ca, rfl, how⟩
  replace st := st.pushOwn cw how
  refine vc_y rfl rfl (y_mv rfl) ?_
  refine vc_y rfl rfl (y_ext rfl rfl) ?_
  refine vc_y rfl rfl (y_ext rfl rfl) ?_
  refine vc_y rfl rfl (y_ext rfl rfl) ?_
  refine vc_e (e_al (l := [_, _]) st rfl rfl Try.zeroValue27 rfl ?_)
  intro b5 w hb5 st
  refine vc_y rfl rfl (y_as rfl) ?_
  refine vc_y rfl rfl (y_as rfl) ?_
  first
  | refine vc_e (e_sts (vs := [_, _]) st 0 rfl rfl rfl rfl rfl Try.sizeOf27 rfl rfl (by first | (right; assumption) | (left; simp)) ?_)
  | refine vc_e (e_sts (vs := [_, _]) st 1 rfl rfl rfl rfl rfl Try.sizeOf27 rfl rfl (by first | (right; assumption) | (left; simp)) ?_)
  | refine vc_e (e_sts (vs := [_, _]) st 2 rfl rfl rfl rfl rfl Try.sizeOf27 rfl rfl (by first | (right; assumption) | (left; simp)) ?_)
  | refine vc_e (e_sts (vs := [_, _]) st 3 rfl rfl rfl rfl rfl Try.sizeOf27 rfl rfl (by first | (right; assumption) | (left; simp)) ?_)
  intro w st; dsimp only [setNth, wr] at st
  refine vc_end ?_
  refine vq_then ?_
  refine vc_keep [(0, _), (3, _), (4, _), (5, _)] ⟨rfl, rfl, rfl, rfl, trivial⟩ ?_
  refine vc_seq ?_
  refine vc_region ?_
  refine vc_y rfl rfl (y_mv rfl) ?_
  refine vc_e (e_call [_] rfl rfl Try.call22 rfl (rscan_any l _) ?_)
  rintro _ w ⟨cw, ob, cb, rfl, how⟩
  replace st := st.pushOwn cw how
  refine vc_y rfl rfl (y_mv rfl) ?_
  refine vc_y rfl rfl (y_ext rfl rfl) ?_
  refine vc_y rfl rfl (y_ext rfl rfl) ?_
  refine vc_y rfl rfl (y_ext rfl rfl) ?_
  refine vc_e (e_al (l := [_, _]) st rfl rfl Try.zeroValue27 rfl ?_)
  intro b8 w hb8 st
  refine vc_y rfl rfl (y_as rfl) ?_
  refine vc_y rfl rfl (y_as rfl) ?_
  first
  | refine vc_e (e_sts (vs := [_, _]) st 0 rfl rfl rfl rfl rfl Try.sizeOf27 rfl rfl (by first | (right; assumption) | (left; simp)) ?_)
  | refine vc_e (e_sts (vs := [_, _]) st 1 rfl rfl rfl rfl rfl Try.sizeOf27 rfl rfl (by first | (right; assumption) | (left; simp)) ?_)
  | refine vc_e (e_sts (vs := [_, _]) st 2 rfl rfl rfl rfl rfl Try.sizeOf27 rfl rfl (by first | (right; assumption) | (left; simp)) ?_)
  | refine vc_e (e_sts (vs := [_, _]) st 3 rfl rfl rfl rfl rfl Try.sizeOf27 rfl rfl (by first | (right; assumption) | (left; simp)) ?_)
  intro w st; dsimp only [setNth, wr] at st
  refine vc_end ?_
  refine vq_then ?_
  refine vc_keep [(3, _), (4, _), (5, _), (6, _), (7, _), (8, _)] ⟨rfl, rfl, rfl, rfl, rfl, rfl, trivial⟩ ?_
  refine vc_seq ?_
  refine vc_region ?_
  have ra := isToks_own (A := (scanRes l).1.map tvOf) (oa := oa) (cap := ca) (by rw [List.length_map, ← toksL_tv]; exact st.res (i := 3) rfl)
  have rb := isToks_own (A := (scanRes l).1.map tvOf) (oa := ob) (cap := cb) (by rw [List.length_map, ← toksL_tv]; exact st.res (i := 1) rfl)
  have hlen : (scanRes l).1.length ≤ maxLen := by obtain ⟨_, h⟩ := (st.res (i := 1) rfl : World.ownsRow _ _ _ _ _ _ _); rcases h with ⟨_, h⟩ | ⟨g, cap, cur, _, _, _, h1, h2, _⟩ <;> omega
  refine vc_y rfl rfl (y_mv rfl) ?_
  refine vc_y rfl rfl (y_mv rfl) ?_
  refine vc_e (e_call [_, _, _] rfl rfl Try.call23 rfl (by have h := rsame_any ((scanRes l).1.map tvOf) ((scanRes l).1.map tvOf) oa ob ca cb true _ ra rb (by simpa using hlen); rw [List.length_map] at h; exact h) ?_)
  rintro _ w ⟨⟨r, rfl, hSame⟩, cw⟩
  obtain rfl : r = true := hSame.2 (SameP.refl _ _)
  replace st := st.call0 cw
  refine vc_e (e_mvb rfl rfl rfl ?_ ?_)
  · intro hg24
    try simp only [decide_eq_true_eq, decide_eq_false_iff_not, Bool.not_eq_true', Bool.not_eq_false', Bool.not_eq_true, Bool.not_eq_false, Int.not_lt, Int.not_le, Nat.not_lt, Nat.not_le, Bool.not_true, Bool.not_false, Bool.true_eq_false, Bool.false_eq_true] at hg24
    refine vc_y rfl rfl (y_mv rfl) ?_
    refine vc_y rfl rfl (y_mv rfl) ?_
    refine vc_y rfl rfl (y_eqi rfl rfl) ?_
    refine vc_y rfl rfl (y_pickt rfl rfl) ?_
    refine vc_e (e_mvb rfl rfl rfl ?_ ?_)
    · intro hg29
      try simp only [decide_eq_true_eq, decide_eq_false_iff_not, Bool.not_eq_true', Bool.not_eq_false', Bool.not_eq_true, Bool.not_eq_false, Int.not_lt, Int.not_le, Nat.not_lt, Nat.not_le, Bool.not_true, Bool.not_false, Bool.true_eq_false, Bool.false_eq_true] at hg29
      refine vc_y rfl rfl ((by first | exact y_lda (vs := [_, _]) st 0 rfl Try.isAgg27 Try.sizeOf27 rfl rfl | exact y_lda (vs := [_, _]) st 1 rfl Try.isAgg27 Try.sizeOf27 rfl rfl | exact y_lda (vs := [_, _]) st 2 rfl Try.isAgg27 Try.sizeOf27 rfl rfl | exact y_lda (vs := [_, _]) st 3 rfl Try.isAgg27 Try.sizeOf27 rfl rfl)) ?_
      refine vc_y rfl rfl ((by first | exact y_lda (vs := [_, _]) st 0 rfl Try.isAgg27 Try.sizeOf27 rfl rfl | exact y_lda (vs := [_, _]) st 1 rfl Try.isAgg27 Try.sizeOf27 rfl rfl | exact y_lda (vs := [_, _]) st 2 rfl Try.isAgg27 Try.sizeOf27 rfl rfl | exact y_lda (vs := [_, _]) st 3 rfl Try.isAgg27 Try.sizeOf27 rfl rfl)) ?_
      refine vc_y rfl rfl (y_bo (r := .bool true) rfl rfl (by simp [go_sem])) ?_
      refine vc_y rfl rfl (y_pickt rfl rfl) ?_
      refine vc_e (e_mvb rfl rfl rfl ?_ ?_)
      · intro hg34
        try simp only [decide_eq_true_eq, decide_eq_false_iff_not, Bool.not_eq_true', Bool.not_eq_false', Bool.not_eq_true, Bool.not_eq_false, Int.not_lt, Int.not_le, Nat.not_lt, Nat.not_le, Bool.not_true, Bool.not_false, Bool.true_eq_false, Bool.false_eq_true] at hg34
        refine vc_e (e_call [] rfl rfl Try.call20 rfl (begins_any _) ?_)
        rintro _ w ⟨rfl, cb⟩
        replace st := st.call0 cb
        refine vc_y rfl rfl (y_pickt rfl rfl) ?_
        refine vc_y rfl rfl (y_as rfl) ?_
        refine vc_end ?_
        refine vq_then ?_
        refine vc_keep [(2, _)] ⟨rfl, trivial⟩ ?_
        refine vc_ret ?_
        refine vq_ret1 st (.inl rfl) Try.results4 (.tmp rfl) ?_
        refine ⟨_, rfl, ?_⟩
        refine ⟨?_, st.chg⟩
        simp
      · intro hg34
        (exfalso; simp [hSame] at hg34)
    · intro hg29
      (exfalso; simp [hSame] at hg29)
  · intro hg24
    (exfalso; simp [hSame] at hg24)

theorem own : ownKnob Try.prog.godebug = none := by kernel_rfl
set_option maxRecDepth 100000 in
theorem liftedLexerScans (os : Os) (started : os.Started) (H : Type) (enc : TypeId × Value → H) :
    ReturnsInHanded {} Try.checked os 4 .any (Rows.lexerScansSpec.pre6 enc Try.prog Try.f4 Rows.lexerScansRow.domain false) (Rows.lexerScansSpec.post enc Try.prog Try.f4 false true false false) := by
  refine returnsInHanded_of_change (C := Try.checked) own started (by kernel_rfl) Try.func4
    (ChangeSpec.witness6 (enc := enc) (C := Try.checked) false ⟨#[], #[.string ⟨#[]⟩], []⟩ 8 (by kernel_rfl) (by kernel_rfl) (by kernel_rfl) (by kernel_rfl)) ?_
  intro W base args ds gs before hval0 hW hcnd _
  have hval : ∀ (j : Nat) t v, Try.f4.params[j]? = some t → args[j]? = some v → Value.okWide Try.prog W .any base t v := hval0
  have hW' := hW
  obtain ⟨p, q, hA0, hV, rfl, hfz, hnd⟩ := hW
  have hA : DataW.TrodAll enc Try.prog W 0 (fun _ => true) true Try.f4.params.toList args.toList ds p := hA0
  rw [Try.params4] at hA hval
  obtain ⟨v0, vs0, d0, ds0, p0, q0, hargs, rfl, rfl, h0, r0⟩ := trodAll_cons hA
  obtain ⟨rfl, rfl, rfl⟩ := trodAll_nil r0
  obtain rfl : args = #[v0] := by cases args; simp_all
  obtain ⟨rfl, rfl⟩ := trodVars_none hV
  obtain ⟨a0, rfl, rfl, rfl, w0⟩ := open_string Try.underlying9 (hval 0 9 v0 rfl rfl) h0
  clear hA0 hval0
  have hwalk := lawLexerScans a0.data.toList w0 W
  refine Calls.mono hwalk fun e W' ⟨u, he, hu, hc⟩ => ?_
  subst he
  subst hu
  have bel := hc.below
  exact ⟨_, rfl, _, _, _, [], _, [], hW', trodAll_mk1 (shut_bool Try.underlying4 _), (trodAll_cons_mk (shut_string Try.underlying9 w0) trodAll_mk0), rfl, bel.frame _, fun h => by cases h⟩
theorem overLexerScans : Rows.lexerScansRow.holds Try.pinned (OpenSpec.ofChange Rows.lexerScansSpec) :=
  OpenClaim.holds_of_wide 4 Try.f4 rfl rfl rfl rfl rfl rfl rfl ⟨rfl, rfl, rfl, rfl, rfl⟩ rfl rfl rfl rfl rfl (by kernel_rfl) Try.func4 (by kernel_rfl)
    (of_decide_eq_true (by kernel_rfl)) (by unfold Func.isWrapper; first | (rw [if_pos (by decide +kernel)]; kernel_rfl) | (rw [if_neg (by decide +kernel)]; exact ⟨rfl, rfl⟩))
    (fun os started H enc _ => liftedLexerScans os started H enc)
theorem provedLexerScans : Rows.LexerScansSaid := overLexerScans

end Go.Proofs.Ytakepmhgmgpkkaa
