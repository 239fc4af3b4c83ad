/- A part of the proof: contracts of functions and plain laws; each theorem says its own conditions. -/
import Derived.Test.YtakepmhgmgpkkaaDoorH
import Derived.Test.YtakepmhgmgpkkaaDoorSpecN
import Derived.Test.YtakepmhgmgpkkaaDoorSxMore5
import Derived.Test.YtakepmhgmgpkkaaDoorSxOpen
namespace Go.Proofs.YtakepmhgmgpkkaaDoor
open Go.RowKit Sx LexS
set_option linter.unusedVariables false
set_option linter.unusedSimpArgs false
/-- the operators' signs and levels -/
def sgnT : List (List UInt8 × Int) := [([], 0), ([43], 7), ([45], 7), ([42], 8), ([47], 8), ([37], 8), ([38], 3), ([124], 1), ([94], 2), ([60, 60], 6), ([62, 62], 6), ([61, 61], 4), ([33, 61], 4), ([60], 5), ([60, 61], 5), ([62], 5), ([62, 61], 5), ([45], 9), ([33], 9)]
def sgn (k : Nat) : List UInt8 := (sgnT.getD k ([], 0)).1
def lvl (k : Nat) : Int := (sgnT.getD k ([], 0)).2
/-- the table of signs lies where the program has it -/
def Sig (w : World) : Prop := ∀ k, k < 19 → w.cell? ⟨0, k * 2, none⟩ = some (str (sgn k)) ∧ w.cell? ⟨0, k * 2 + 1, none⟩ = some (.int .i64 (lvl k))
theorem Sig.kept {w w' : World} (h : Sig w) (c : Chg [] w w') : Sig w' := fun k hk => ⟨c.cell (h k hk).1 (by simp), c.cell (h k hk).2 (by simp)⟩
def knownOp (k : Int) : Bool := decide (0 < k ∧ k < 19)
def twoOp (k : Int) : Bool := decide (0 < k ∧ k < 17)
theorem sgn_sign' : ∀ k, k < 19 → 1 ≤ k → isSign (sgn k) = true := by decide
theorem sgn_sign (k : Nat) (h : 1 ≤ k) (h' : k < 19) : isSign (sgn k) = true := sgn_sign' k h' h
theorem sgn_ne' : ∀ k, k < 19 → 1 ≤ k → sgn k ≠ [] := by decide
theorem sgn_ne (k : Nat) (h : 1 ≤ k) (h' : k < 19) : sgn k ≠ [] := sgn_ne' k h' h

theorem known_any (k : Int) (w : World) : Ret Tryd.prog 11 [.int .u8 k] w fun v w' => v = .bool (knownOp k) ∧ w' = w := by
  refine ret_of [_] Tryd.func11 rfl Tryd.ntmps11 rfl ?_
  have st := St.init w []
  refine vc_seq ?_
  refine vc_region ?_
  refine vc_y rfl rfl (y_as rfl) ?_
  refine vc_end ?_
  refine vq_then ?_
  refine vc_keep [(0, _)] ⟨rfl, trivial⟩ ?_
  refine vc_seq ?_
  refine vc_region ?_
  refine vc_y rfl rfl (y_mv rfl) ?_
  refine vc_y rfl rfl (y_gtr rfl rfl) ?_
  refine vc_e (e_mvb rfl rfl rfl ?_ ?_)
  · intro hg5
    try simp only [decide_eq_true_eq, decide_eq_false_iff_not, Bool.not_eq_true', Bool.not_eq_false', Bool.not_eq_true, Bool.not_eq_false, Int.not_lt, Int.not_le, Nat.not_lt, Nat.not_le, Bool.not_true, Bool.not_false, Bool.true_eq_false, Bool.false_eq_true] at hg5
    refine vc_y rfl rfl (y_mv rfl) ?_
    refine vc_y rfl rfl (y_lss rfl rfl) ?_
    refine vc_y rfl rfl (y_pickt rfl rfl) ?_
    refine vc_y rfl rfl (y_as rfl) ?_
    refine vc_end ?_
    refine vq_then ?_
    refine vc_keep [(2, _)] ⟨rfl, trivial⟩ ?_
    refine vc_ret ?_
    refine vq_ret1 st (.inl rfl) Tryd.results11 (.tmp rfl) ?_
    refine ⟨_, rfl, ?_⟩
    refine ⟨?_, rfl⟩
    congr 1
    unfold knownOp
    first | (rw [Bool.eq_iff_iff]; simp; omega) | (symm; simp; omega)
  · intro hg5
    try simp only [decide_eq_true_eq, decide_eq_false_iff_not, Bool.not_eq_true', Bool.not_eq_false', Bool.not_eq_true, Bool.not_eq_false, Int.not_lt, Int.not_le, Nat.not_lt, Nat.not_le, Bool.not_true, Bool.not_false, Bool.true_eq_false, Bool.false_eq_true] at hg5
    refine vc_e (e_skip rfl rfl ?_)
    refine vc_e (e_skip rfl rfl ?_)
    refine vc_y rfl rfl (y_pickf rfl rfl) ?_
    refine vc_y rfl rfl (y_as rfl) ?_
    refine vc_end ?_
    refine vq_then ?_
    refine vc_keep [(2, _)] ⟨rfl, trivial⟩ ?_
    refine vc_ret ?_
    refine vq_ret1 st (.inl rfl) Tryd.results11 (.tmp rfl) ?_
    refine ⟨_, rfl, ?_⟩
    refine ⟨?_, rfl⟩
    congr 1
    unfold knownOp
    first | (rw [Bool.eq_iff_iff]; simp; omega) | (symm; simp; omega)

theorem two_any (k : Int) (w : World) : Ret Tryd.prog 13 [.int .u8 k] w fun v w' => v = .bool (twoOp k) ∧ w' = w := by
  refine ret_of [_] Tryd.func13 rfl Tryd.ntmps13 rfl ?_
  have st := St.init w []
  refine vc_seq ?_
  refine vc_region ?_
  refine vc_y rfl rfl (y_as rfl) ?_
  refine vc_end ?_
  refine vq_then ?_
  refine vc_keep [(0, _)] ⟨rfl, trivial⟩ ?_
  refine vc_seq ?_
  refine vc_region ?_
  refine vc_y rfl rfl (y_mv rfl) ?_
  refine vc_e (e_call [_] rfl rfl Tryd.call11 rfl (known_any _ _) ?_)
  rintro _ _ ⟨rfl, rfl⟩
  refine vc_e (e_mvb rfl rfl rfl ?_ ?_)
  · intro hg5
    try simp only [decide_eq_true_eq, decide_eq_false_iff_not, Bool.not_eq_true', Bool.not_eq_false', Bool.not_eq_true, Bool.not_eq_false, Int.not_lt, Int.not_le, Nat.not_lt, Nat.not_le, Bool.not_true, Bool.not_false, Bool.true_eq_false, Bool.false_eq_true] at hg5
    refine vc_y rfl rfl (y_mv rfl) ?_
    refine vc_y rfl rfl (y_nei rfl rfl) ?_
    refine vc_y rfl rfl (y_pickt rfl rfl) ?_
    refine vc_e (e_mvb rfl rfl rfl ?_ ?_)
    · intro hg9
      try simp only [decide_eq_true_eq, decide_eq_false_iff_not, Bool.not_eq_true', Bool.not_eq_false', Bool.not_eq_true, Bool.not_eq_false, Int.not_lt, Int.not_le, Nat.not_lt, Nat.not_le, Bool.not_true, Bool.not_false, Bool.true_eq_false, Bool.false_eq_true] at hg9
      refine vc_y rfl rfl (y_mv rfl) ?_
      refine vc_y rfl rfl (y_nei rfl rfl) ?_
      refine vc_y rfl rfl (y_pickt rfl rfl) ?_
      refine vc_y rfl rfl (y_as rfl) ?_
      refine vc_end ?_
      refine vq_then ?_
      refine vc_keep [(2, _)] ⟨rfl, trivial⟩ ?_
      refine vc_ret ?_
      refine vq_ret1 st (.inl rfl) Tryd.results13 (.tmp rfl) ?_
      refine ⟨_, rfl, ?_⟩
      refine ⟨?_, rfl⟩
      show Value.bool _ = Value.bool _
      congr 1
      unfold knownOp at *
      unfold twoOp
      simp only [decide_eq_true_eq, decide_eq_false_iff_not, Bool.not_eq_true', Bool.not_eq_false'] at *
      first | (symm; rw [decide_eq_false_iff_not]; omega) | (rw [Bool.eq_iff_iff]; simp only [Bool.not_eq_true', decide_eq_false_iff_not, decide_eq_true_eq]; omega)
    · intro hg9
      try simp only [decide_eq_true_eq, decide_eq_false_iff_not, Bool.not_eq_true', Bool.not_eq_false', Bool.not_eq_true, Bool.not_eq_false, Int.not_lt, Int.not_le, Nat.not_lt, Nat.not_le, Bool.not_true, Bool.not_false, Bool.true_eq_false, Bool.false_eq_true] at hg9
      refine vc_e (e_skip rfl rfl ?_)
      refine vc_e (e_skip rfl rfl ?_)
      refine vc_y rfl rfl (y_pickf rfl rfl) ?_
      refine vc_y rfl rfl (y_as rfl) ?_
      refine vc_end ?_
      refine vq_then ?_
      refine vc_keep [(2, _)] ⟨rfl, trivial⟩ ?_
      refine vc_ret ?_
      refine vq_ret1 st (.inl rfl) Tryd.results13 (.tmp rfl) ?_
      refine ⟨_, rfl, ?_⟩
      refine ⟨?_, rfl⟩
      show Value.bool _ = Value.bool _
      congr 1
      unfold knownOp at *
      unfold twoOp
      simp only [decide_eq_true_eq, decide_eq_false_iff_not, Bool.not_eq_true', Bool.not_eq_false'] at *
      first | (symm; rw [decide_eq_false_iff_not]; omega) | (rw [Bool.eq_iff_iff]; simp only [Bool.not_eq_true', decide_eq_false_iff_not, decide_eq_true_eq]; omega)
  · intro hg5
    try simp only [decide_eq_true_eq, decide_eq_false_iff_not, Bool.not_eq_true', Bool.not_eq_false', Bool.not_eq_true, Bool.not_eq_false, Int.not_lt, Int.not_le, Nat.not_lt, Nat.not_le, Bool.not_true, Bool.not_false, Bool.true_eq_false, Bool.false_eq_true] at hg5
    refine vc_e (e_skip rfl rfl ?_)
    refine vc_e (e_skip rfl rfl ?_)
    refine vc_y rfl rfl (y_pickf rfl rfl) ?_
    refine vc_y rfl rfl (y_mv rfl) ?_
    refine vc_e (e_skip rfl rfl ?_)
    refine vc_e (e_skip rfl rfl ?_)
    refine vc_y rfl rfl (y_pickf rfl rfl) ?_
    refine vc_y rfl rfl (y_as rfl) ?_
    refine vc_end ?_
    refine vq_then ?_
    refine vc_keep [(2, _)] ⟨rfl, trivial⟩ ?_
    refine vc_ret ?_
    refine vq_ret1 st (.inl rfl) Tryd.results13 (.tmp rfl) ?_
    refine ⟨_, rfl, ?_⟩
    refine ⟨?_, rfl⟩
    show Value.bool _ = Value.bool _
    congr 1
    unfold knownOp at *
    unfold twoOp
    simp only [decide_eq_true_eq, decide_eq_false_iff_not, Bool.not_eq_true', Bool.not_eq_false'] at *
    first | (symm; rw [decide_eq_false_iff_not]; omega) | (rw [Bool.eq_iff_iff]; simp only [Bool.not_eq_true', decide_eq_false_iff_not, decide_eq_true_eq]; omega)

theorem show_any (k : Int) (w : World) (hs : Sig w) : Ret Tryd.prog 7 [.int .u8 k] w fun v w' => v = str (if knownOp k = true then sgn k.toNat else []) ∧ w' = w := by
  refine ret_of [_] Tryd.func7 rfl Tryd.ntmps7 rfl ?_
  have st := St.init w []
  refine vc_seq ?_
  refine vc_region ?_
  refine vc_y rfl rfl (y_as rfl) ?_
  refine vc_end ?_
  refine vq_then ?_
  refine vc_keep [(0, _)] ⟨rfl, trivial⟩ ?_
  refine vc_seq ?_
  refine vc_seq ?_
  refine vc_region ?_
  refine vc_y rfl rfl (y_mv rfl) ?_
  refine vc_e (e_call [_] rfl rfl Tryd.call11 rfl (known_any _ _) ?_)
  rintro _ _ ⟨rfl, rfl⟩
  refine vc_y rfl rfl (y_not rfl) ?_
  refine vc_end ?_
  refine vq_then ?_
  refine vc_keep [(0, _), (5, _)] ⟨rfl, rfl, trivial⟩ ?_
  refine vc_ifs rfl ?_ ?_
  · intro hc5
    try simp only [decide_eq_true_eq, decide_eq_false_iff_not, Bool.not_eq_true', Bool.not_eq_false', Bool.not_eq_true, Bool.not_eq_false, Int.not_lt, Int.not_le, Nat.not_lt, Nat.not_le, Bool.not_true, Bool.not_false, Bool.true_eq_false, Bool.false_eq_true] at hc5
    refine vc_seq ?_
    refine vc_region ?_
    refine vc_y rfl rfl (y_as rfl) ?_
    refine vc_end ?_
    refine vq_then ?_
    refine vc_keep [(2, _)] ⟨rfl, trivial⟩ ?_
    refine vc_ret ?_
    refine vq_then_ret ?_
    refine vq_ret1 st (.inl rfl) Tryd.results7 (.tmp rfl) ?_
    refine ⟨_, rfl, ?_⟩
    refine ⟨?_, rfl⟩
    rw [if_neg (by simpa using hc5)]
  · intro hc5
    try simp only [decide_eq_true_eq, decide_eq_false_iff_not, Bool.not_eq_true', Bool.not_eq_false', Bool.not_eq_true, Bool.not_eq_false, Int.not_lt, Int.not_le, Nat.not_lt, Nat.not_le, Bool.not_true, Bool.not_false, Bool.true_eq_false, Bool.false_eq_true] at hc5
    have hk : 0 < k ∧ k < 19 := by simpa [knownOp] using hc5
    obtain ⟨m, rfl⟩ : ∃ m : Nat, k = (m : Int) := ⟨k.toNat, by omega⟩
    refine vc_code_skip ?_
    refine vq_then ?_
    refine vc_keep [(0, _)] ⟨rfl, trivial⟩ ?_
    refine vc_seq ?_
    refine vc_region ?_
    refine vc_y rfl rfl (y_mv rfl) ?_
    refine vc_y rfl rfl (y_iaa (k := m) rfl rfl Tryd.underlying49 Tryd.sizeOf48 rfl (by omega)) ?_
    refine vc_y rfl rfl (y_fa0 rfl Tryd.underlying48 rfl rfl Tryd.sizeOf9 rfl) ?_
    refine vc_y rfl rfl ((by first | exact y_ldc rfl Tryd.isAgg9 (by have h := (hs m (by omega)).1; rw [Nat.zero_add]; exact h) | exact y_ld st 0 rfl Tryd.isAgg9 rfl rfl)) ?_
    refine vc_y rfl rfl (y_as rfl) ?_
    refine vc_end ?_
    refine vq_then ?_
    refine vc_keep [(2, _)] ⟨rfl, trivial⟩ ?_
    refine vc_ret ?_
    refine vq_ret1 st (.inl rfl) Tryd.results7 (.tmp rfl) ?_
    refine ⟨_, rfl, ?_⟩
    refine ⟨?_, rfl⟩
    rw [if_pos (by simpa using hc5)]
    rfl

theorem add_any (a b : Int) (w : World) (h : -9223372036854775808 ≤ a + b ∧ a + b ≤ 9223372036854775807) : Ret Tryd.prog 22 [.int .i64 a, .int .i64 b] w fun v w' => v = .int .i64 (a + b) ∧ w' = w := by
  refine ret_of [_, _] Tryd.func22 rfl Tryd.ntmps22 rfl ?_
  have st := St.init w []
  refine vc_seq ?_
  refine vc_region ?_
  refine vc_y rfl rfl (y_as rfl) ?_
  refine vc_end ?_
  refine vq_then ?_
  refine vc_keep [(0, _), (1, _)] ⟨rfl, rfl, trivial⟩ ?_
  refine vc_seq ?_
  refine vc_region ?_
  refine vc_y rfl rfl (y_mv rfl) ?_
  refine vc_y rfl rfl (y_mv rfl) ?_
  refine vc_y rfl rfl (y_add rfl rfl rfl (by omega) (by omega)) ?_
  refine vc_y rfl rfl (y_as rfl) ?_
  refine vc_end ?_
  refine vq_then ?_
  refine vc_keep [(4, _)] ⟨rfl, trivial⟩ ?_
  refine vc_ret ?_
  refine vq_ret1 st (.inl rfl) Tryd.results22 (.tmp rfl) ?_
  refine ⟨_, rfl, ?_⟩
  exact ⟨rfl, rfl⟩

theorem operators_any (w : World) : Ret Tryd.prog 14 [] w fun v w' => ∃ vs : List Value, v = .agg vs.toArray ∧ nth vs 2 = some (.func (.func 22) #[] #[]) ∧ takeN 2 (dropN vs 2) = some [.func (.func 22) #[] #[], .nilFunc] ∧ Chg [] w w' := by
  refine ret_of [] Tryd.func14 rfl Tryd.ntmps14 rfl ?_
  have st := St.init w []
  refine vc_seq ?_
  refine vc_region ?_
  refine vc_e (e_al (l := [_, _, _, _, _, _, _, _, _, _, _, _, _, _, _, _, _, _, _, _, _, _, _, _, _, _, _, _, _, _, _, _, _, _, _, _, _, _]) st rfl rfl Tryd.zeroValue55 rfl ?_)
  intro b0 w hb0 st
  refine vc_end ?_
  refine vq_then ?_
  refine vc_keep [(0, _)] ⟨rfl, trivial⟩ ?_
  refine vc_seq ?_
  refine vc_region ?_
  refine vc_y rfl rfl (y_bld (.agg #[_, _]) [(0, _)] rfl (fun w => by simp [Instr.build, go_sem] <;> repeat' constructor)) ?_
  refine vc_y rfl rfl (y_bld (.agg #[_, _]) [(0, _)] rfl (fun w => by simp [Instr.build, go_sem] <;> repeat' constructor)) ?_
  refine vc_y rfl rfl (y_bld (.agg #[_, _]) [(0, _)] rfl (fun w => by simp [Instr.build, go_sem] <;> repeat' constructor)) ?_
  refine vc_y rfl rfl (y_bld (.agg #[_, _]) [(0, _)] rfl (fun w => by simp [Instr.build, go_sem] <;> repeat' constructor)) ?_
  refine vc_y rfl rfl (y_bld (.agg #[_, _]) [(0, _)] rfl (fun w => by simp [Instr.build, go_sem] <;> repeat' constructor)) ?_
  refine vc_y rfl rfl (y_bld (.agg #[_, _]) [(0, _)] rfl (fun w => by simp [Instr.build, go_sem] <;> repeat' constructor)) ?_
  refine vc_y rfl rfl (y_bld (.agg #[_, _]) [(0, _)] rfl (fun w => by simp [Instr.build, go_sem] <;> repeat' constructor)) ?_
  refine vc_y rfl rfl (y_bld (.agg #[_, _]) [(0, _)] rfl (fun w => by simp [Instr.build, go_sem] <;> repeat' constructor)) ?_
  refine vc_y rfl rfl (y_bld (.agg #[_, _]) [(0, _)] rfl (fun w => by simp [Instr.build, go_sem] <;> repeat' constructor)) ?_
  refine vc_y rfl rfl (y_bld (.agg #[_, _]) [(0, _)] rfl (fun w => by simp [Instr.build, go_sem] <;> repeat' constructor)) ?_
  refine vc_y rfl rfl (y_bld (.agg #[_, _]) [(0, _)] rfl (fun w => by simp [Instr.build, go_sem] <;> repeat' constructor)) ?_
  refine vc_y rfl rfl (y_bld (.agg #[_, _]) [(0, _)] rfl (fun w => by simp [Instr.build, go_sem] <;> repeat' constructor)) ?_
  refine vc_y rfl rfl (y_bld (.agg #[_, _]) [(0, _)] rfl (fun w => by simp [Instr.build, go_sem] <;> repeat' constructor)) ?_
  refine vc_y rfl rfl (y_bld (.agg #[_, _]) [(0, _)] rfl (fun w => by simp [Instr.build, go_sem] <;> repeat' constructor)) ?_
  refine vc_y rfl rfl (y_bld (.agg #[_, _]) [(0, _)] rfl (fun w => by simp [Instr.build, go_sem] <;> repeat' constructor)) ?_
  refine vc_y rfl rfl (y_bld (.agg #[_, _]) [(0, _)] rfl (fun w => by simp [Instr.build, go_sem] <;> repeat' constructor)) ?_
  refine vc_y rfl rfl (y_bld (.agg #[_, _]) [(1, _)] rfl (fun w => by simp [Instr.build, go_sem] <;> repeat' constructor)) ?_
  refine vc_y rfl rfl (y_bld (.agg #[_, _]) [(1, _)] rfl (fun w => by simp [Instr.build, go_sem] <;> repeat' constructor)) ?_
  refine vc_y rfl rfl (y_bld (.agg #[_, _, _, _, _, _, _, _, _, _, _, _, _, _, _, _, _, _, _, _, _, _, _, _, _, _, _, _, _, _, _, _, _, _, _, _, _, _]) [(1, _), (2, _), (3, _), (4, _), (5, _), (6, _), (7, _), (8, _), (9, _), (10, _), (11, _), (12, _), (13, _), (14, _), (15, _), (16, _), (17, _), (18, _)] rfl (fun w => by simp [Instr.build, go_sem] <;> repeat' constructor)) ?_
  first
  | refine vc_e (e_sts (vs := [_, _, _, _, _, _, _, _, _, _, _, _, _, _, _, _, _, _, _, _, _, _, _, _, _, _, _, _, _, _, _, _, _, _, _, _, _, _]) st 0 rfl rfl rfl rfl rfl Tryd.sizeOf55 rfl rfl (by first | (right; assumption) | (left; simp)) ?_)
  intro w st; dsimp only [setNth, wr] at st
  refine vc_end ?_
  refine vq_then ?_
  refine vc_keep [(0, _)] ⟨rfl, trivial⟩ ?_
  refine vc_ret ?_
  refine vq_ret1 st (.inl rfl) Tryd.results14 (by first | exact .cell 0 rfl rfl Tryd.isAgg55 Tryd.sizeOf55) ?_
  refine ⟨_, rfl, ?_⟩
  exact ⟨_, rfl, rfl, rfl, st.chg⟩

abbrev zs (k : Nat) : List Value := List.replicate k (.int .u8 0)
theorem zs_set (k : Nat) (t : List UInt8) (c : UInt8) (x : Int) (hx : (c.toNat : Int) = x) (hk : 0 < k) : (zs k ++ bytesL t).set (k - 1) (.int .u8 x) = zs (k - 1) ++ bytesL (c :: t) := by
  obtain ⟨m, rfl⟩ : ∃ m, k = m + 1 := ⟨k - 1, by omega⟩
  have e : zs (m + 1) = zs m ++ [.int .u8 0] := by simp [zs, List.replicate_succ']
  rw [e, Nat.add_sub_cancel, List.append_assoc, List.set_append_right _ _ (by simp)]
  subst hx
  simp
theorem zs_len (k : Nat) (t : List UInt8) : (zs k ++ bytesL t).length = k + t.length := by simp
theorem blk_rd {w : World} {b k E : Nat} {t : List UInt8} {c : Nat} (h : w.heap[b]? = some (.cells (zs k ++ bytesL t).toArray E (0, 0))) : RdRowP w (some ⟨b, 0 + k * 1, none⟩) c (bytesL t) :=
  .inr ⟨b, 0 + k * 1, rfl, fun j u hj => cell_blk h (by
    rw [nth_eq, List.getElem?_append_right (by simp)]
    simpa [show 0 + k * 1 + j - k = j by omega] using hj)⟩

theorem do_any (w : World) : Ret Tryd.prog 9 [.int .u8 1, .int .i64 2, .int .i64 3] w fun v w' => v = .tuple [.int .i64 5, .int .i64 0].toArray ∧ Chg [] w w' := by
  refine ret_of [_, _, _] Tryd.func9 rfl Tryd.ntmps9 rfl ?_
  have st := St.init w []
  refine vc_seq ?_
  refine vc_region ?_
  refine vc_y rfl rfl (y_as rfl) ?_
  refine vc_y rfl rfl (y_as rfl) ?_
  refine vc_end ?_
  refine vq_then ?_
  refine vc_keep [(0, _), (1, _), (2, _)] ⟨rfl, rfl, rfl, trivial⟩ ?_
  refine vc_seq ?_
  refine vc_seq ?_
  refine vc_region ?_
  refine vc_y rfl rfl (y_mv rfl) ?_
  refine vc_e (e_call [_] rfl rfl Tryd.call13 rfl (two_any _ _) ?_)
  rintro _ _ ⟨rfl, rfl⟩
  refine vc_y rfl rfl (y_not rfl) ?_
  refine vc_end ?_
  refine vq_then ?_
  refine vc_keep [(0, _), (1, _), (2, _), (11, _)] ⟨rfl, rfl, rfl, rfl, trivial⟩ ?_
  refine vc_ifs rfl ?_ ?_
  · intro hc11
    (exfalso; revert hc11; decide)
  · intro hc11
    try simp only [decide_eq_true_eq, decide_eq_false_iff_not, Bool.not_eq_true', Bool.not_eq_false', Bool.not_eq_true, Bool.not_eq_false, Int.not_lt, Int.not_le, Nat.not_lt, Nat.not_le, Bool.not_true, Bool.not_false, Bool.true_eq_false, Bool.false_eq_true] at hc11
    refine vc_code_skip ?_
    refine vq_then ?_
    refine vc_keep [(0, _), (1, _), (2, _)] ⟨rfl, rfl, rfl, trivial⟩ ?_
    refine vc_seq ?_
    refine vc_region ?_
    refine vc_e (e_call [] rfl rfl Tryd.call14 rfl (operators_any _) ?_)
    rintro _ w ⟨vs, rfl, hv2, htk, cw⟩
    replace st := st.call0 cw
    refine vc_y rfl rfl (y_mv rfl) ?_
    refine vc_y rfl rfl (y_ixa (i := 1) (vs := [.func (.func 22) #[] #[], .nilFunc]) rfl rfl Tryd.underlying55 Tryd.sizeOf54 rfl rfl Tryd.isAgg54 htk) ?_
    refine vc_y rfl rfl (y_fld rfl Tryd.underlying54 rfl rfl Tryd.isAgg51 rfl) ?_
    refine vc_y rfl rfl (y_as rfl) ?_
    refine vc_end ?_
    refine vq_then ?_
    refine vc_keep [(1, _), (2, _), (8, _)] ⟨rfl, rfl, rfl, trivial⟩ ?_
    refine vc_seq ?_
    refine vc_region ?_
    refine vc_y rfl rfl (y_mv rfl) ?_
    refine vc_y rfl rfl (y_mv rfl) ?_
    refine vc_y rfl rfl (y_mv rfl) ?_
    refine vc_e (e_callv [_, _] rfl rfl rfl Tryd.call22 rfl (add_any 2 3 _ (by omega)) ?_)
    rintro _ _ ⟨rfl, rfl⟩
    refine vc_y rfl rfl (y_as rfl) ?_
    refine vc_y rfl rfl (y_as rfl) ?_
    refine vc_end ?_
    refine vq_then ?_
    refine vc_keep [(6, _), (7, _)] ⟨rfl, rfl, trivial⟩ ?_
    refine vc_ret ?_
    refine vq_ret2 st (.inl rfl) Tryd.results9 (.tmp rfl) (.tmp rfl) ?_
    refine ⟨_, rfl, ?_⟩
    exact ⟨rfl, st.chg⟩

set_option maxHeartbeats 1000000 in
theorem wprint_any (x : Int) (w : World) (hx : -9223372036854775808 ≤ x ∧ x ≤ 9223372036854775807) : Ret Tryd.prog 6 [.int .i64 x] w fun v w' => v = str (shw x) ∧ Chg [] w w' := by
  refine ret_of [_] Tryd.func6 rfl Tryd.ntmps6 rfl ?_
  have st := St.init w []
  obtain ⟨w0, rfl⟩ : ∃ w0, w0 = w := ⟨_, rfl⟩
  have hdl := dec_len 18 x.natAbs (by simp only [Nat.reducePow, Nat.reduceAdd]; omega)
  refine vc_seq ?_
  refine vc_region ?_
  refine vc_y rfl rfl (y_as rfl) ?_
  refine vc_end ?_
  refine vq_then ?_
  refine vc_keep [(0, _)] ⟨rfl, trivial⟩ ?_
  refine vc_seq ?_
  refine vc_region ?_
  refine vc_e (e_al (l := [_, _, _, _, _, _, _, _, _, _, _, _, _, _, _, _, _, _, _, _]) st rfl rfl Tryd.zeroValue44 rfl ?_)
  intro b3 w hb3 st
  refine vc_end ?_
  refine vq_then ?_
  refine vc_keep [(0, _), (3, _)] ⟨rfl, rfl, trivial⟩ ?_
  refine vc_seq ?_
  refine vc_region ?_
  refine vc_y rfl rfl (y_as rfl) ?_
  refine vc_end ?_
  refine vq_then ?_
  refine vc_keep [(0, _), (3, _), (4, _)] ⟨rfl, rfl, rfl, trivial⟩ ?_
  refine vc_seq ?_
  refine vc_region ?_
  refine vc_y rfl rfl (y_mv rfl) ?_
  refine vc_y rfl rfl (y_cvi rfl Tryd.underlying45 Tryd.underlying2 (rfl : _ = IntKind.u64.wrap x)) ?_
  refine vc_y rfl rfl (y_as rfl) ?_
  refine vc_end ?_
  refine vq_then ?_
  refine vc_keep [(0, _), (3, _), (4, _), (5, _)] ⟨rfl, rfl, rfl, rfl, trivial⟩ ?_
  refine vc_cut (w0 := w0) (M := []) (fun (_ : Unit) => [(0, .int .i64 x), (3, .pointer (some ⟨b3, 0, none⟩)), (4, .int .i64 20), (5, .int .u64 (x.natAbs : Int))]) (fun _ => [.blk b3 (.cells (zs 20 ++ bytesL []).toArray 44 (0, 0))]) (fun _ _ => True) ?_ ?_
  ·
    refine vc_seq ?_
    refine vc_region ?_
    refine vc_y rfl rfl (y_mv rfl) ?_
    refine vc_y rfl rfl (y_lss rfl rfl) ?_
    refine vc_end ?_
    refine vq_then ?_
    refine vc_keep [(0, _), (3, _), (4, _), (5, _), (9, _)] ⟨rfl, rfl, rfl, rfl, rfl, trivial⟩ ?_
    refine vc_ifs rfl ?_ ?_
    · intro hc9
      try simp only [decide_eq_true_eq, decide_eq_false_iff_not, Bool.not_eq_true', Bool.not_eq_false', Bool.not_eq_true, Bool.not_eq_false, Int.not_lt, Int.not_le, Nat.not_lt, Nat.not_le, Bool.not_true, Bool.not_false, Bool.true_eq_false, Bool.false_eq_true] at hc9
      refine vc_region ?_
      refine vc_y rfl rfl (y_mv rfl) ?_
      refine vc_y rfl rfl (y_neg rfl (by rw [wrap_u64, wrap_u64]; omega : _ = (x.natAbs : Int))) ?_
      refine vc_y rfl rfl (y_as rfl) ?_
      refine vc_end ?_
      exact vq_meet () ⟨rfl, rfl, rfl, rfl, trivial⟩ st trivial
    · intro hc9
      try simp only [decide_eq_true_eq, decide_eq_false_iff_not, Bool.not_eq_true', Bool.not_eq_false', Bool.not_eq_true, Bool.not_eq_false, Int.not_lt, Int.not_le, Nat.not_lt, Nat.not_le, Bool.not_true, Bool.not_false, Bool.true_eq_false, Bool.false_eq_true] at hc9
      refine vc_code_skip ?_
      exact vq_meet () ⟨rfl, rfl, rfl, by simp only [find, Nat.beq]; congr 2; rw [wrap_u64]; omega, trivial⟩ st trivial
  ·
    clear st
    rintro ⟨⟩ w - st
    refine vc_seq ?_
    refine vc_block ?_
    refine vc_loop (w0 := _) (M := _) (fun (y : Nat × Nat × List UInt8) => [(0, .int .i64 x), (3, .pointer (some ⟨b3, 0, none⟩)), (4, .int .i64 (y.1 : Int)), (5, .int .u64 (y.2.1 : Int))]) (fun y => [.blk b3 (.cells (zs y.1 ++ bytesL y.2.2).toArray 44 (0, 0))]) (fun y _ => y.1 + y.2.2.length = 20 ∧ dec y.2.1 ++ y.2.2 = dec x.natAbs ∧ y.2.1 ≤ x.natAbs) (fun y => y.1) (20, x.natAbs, []) ⟨rfl, rfl, rfl, rfl, trivial⟩ st ⟨rfl, by simp, by simp⟩ ?_
    rintro ⟨at_, n, t⟩ w ⟨hat, hdec, hnx⟩ st
    dsimp only at *
    have hdp := dec_pos n
    have hlen := congrArg List.length hdec
    rw [List.length_append] at hlen
    obtain ⟨hdg1, hdg2⟩ := digit_of (Nat.mod_lt n (by omega : 0 < 10))
    refine vc_block ?_
    refine vc_seq ?_
    refine vc_region ?_
    refine vc_y rfl rfl (y_mv rfl) ?_
    refine vc_y rfl rfl (y_sub rfl rfl (by omega : _ = ((at_ - 1 : Nat) : Int)) (by omega) (by omega)) ?_
    refine vc_y rfl rfl (y_as rfl) ?_
    refine vc_end ?_
    refine vq_then ?_
    refine vc_keep [(0, _), (3, _), (4, _), (5, _)] ⟨rfl, rfl, rfl, rfl, trivial⟩ ?_
    refine vc_seq ?_
    refine vc_region ?_
    refine vc_y rfl rfl (y_mv rfl) ?_
    refine vc_y rfl rfl (y_mv rfl) ?_
    refine vc_y rfl rfl (y_remk rfl rfl (by omega) (by omega) (by omega : _ = ((n % 10 : Nat) : Int))) ?_
    refine vc_y rfl rfl (y_addk rfl rfl (by rw [wrap_u64]; omega : _ = ((48 + n % 10 : Nat) : Int))) ?_
    refine vc_y rfl rfl (y_cvi rfl Tryd.underlying5 Tryd.underlying45 (by rw [wrap_u8]; omega : _ = ((48 + n % 10 : Nat) : Int))) ?_
    refine vc_y rfl rfl (y_iaa (k := (at_ - 1)) rfl rfl Tryd.underlying44 Tryd.sizeOf5 rfl (by omega)) ?_
    refine vc_e (e_sta (l' := zs (at_ - 1) ++ bytesL (UInt8.ofNat (48 + n % 10) :: t)) st 0 rfl rfl rfl rfl Tryd.sizeOf5 rfl (by rw [zs_len]; omega) (by rw [show 0 + (at_ - 1) * 1 = at_ - 1 by omega]; exact zs_set at_ t (UInt8.ofNat (48 + n % 10)) _ (by rw [hdg2]) (by omega)) (.inr hb3) ?_)
    intro w st; dsimp only [setNth] at st
    refine vc_end ?_
    refine vq_then ?_
    refine vc_keep [(0, _), (3, _), (4, _), (5, _)] ⟨rfl, rfl, rfl, rfl, trivial⟩ ?_
    refine vc_seq ?_
    refine vc_region ?_
    refine vc_y rfl rfl (y_mv rfl) ?_
    refine vc_y rfl rfl (y_quok rfl rfl (by omega) (by omega) (by rw [wrap_u64]; omega : _ = ((n / 10 : Nat) : Int))) ?_
    refine vc_y rfl rfl (y_as rfl) ?_
    refine vc_end ?_
    refine vq_then ?_
    refine vc_keep [(0, _), (3, _), (4, _), (5, _)] ⟨rfl, rfl, rfl, rfl, trivial⟩ ?_
    refine vc_seq ?_
    refine vc_region ?_
    refine vc_y rfl rfl (y_mv rfl) ?_
    refine vc_y rfl rfl (y_eqi rfl rfl) ?_
    refine vc_end ?_
    refine vq_then ?_
    refine vc_keep [(0, _), (3, _), (4, _), (5, _), (23, _)] ⟨rfl, rfl, rfl, rfl, rfl, trivial⟩ ?_
    refine vc_ifs rfl ?_ ?_
    · intro hc23
      try simp only [decide_eq_true_eq, decide_eq_false_iff_not, Bool.not_eq_true', Bool.not_eq_false', Bool.not_eq_true, Bool.not_eq_false, Int.not_lt, Int.not_le, Nat.not_lt, Nat.not_le, Bool.not_true, Bool.not_false, Bool.true_eq_false, Bool.false_eq_true] at hc23
      have hn : n < 10 := by omega
      have hfin : UInt8.ofNat (48 + n % 10) :: t = dec x.natAbs := by rw [← hdec, dec_small hn, Nat.mod_eq_of_lt hn]; rfl
      rw [hfin] at st
      have hlen2 := congrArg List.length hfin
      simp only [List.length_cons] at hlen2
      refine vc_exit ?_
      refine vq_block_other rfl ?_
      refine vq_then_exit ?_
      refine vq_block_exit ?_
      refine vq_then ?_
      refine vc_keep [(0, _), (3, _), (4, _)] ⟨rfl, rfl, rfl, trivial⟩ ?_
      refine vc_seq ?_
      refine vc_seq ?_
      refine vc_region ?_
      refine vc_y rfl rfl (y_mv rfl) ?_
      refine vc_y rfl rfl (y_lss rfl rfl) ?_
      refine vc_end ?_
      refine vq_then ?_
      refine vc_keep [(3, _), (4, _), (25, _)] ⟨rfl, rfl, rfl, trivial⟩ ?_
      refine vc_ifs rfl ?_ ?_
      · intro hc25
        try simp only [decide_eq_true_eq, decide_eq_false_iff_not, Bool.not_eq_true', Bool.not_eq_false', Bool.not_eq_true, Bool.not_eq_false, Int.not_lt, Int.not_le, Nat.not_lt, Nat.not_le, Bool.not_true, Bool.not_false, Bool.true_eq_false, Bool.false_eq_true] at hc25
        refine vc_seq ?_
        refine vc_region ?_
        refine vc_y rfl rfl (y_mv rfl) ?_
        refine vc_y rfl rfl (y_sub rfl rfl (by omega : _ = ((at_ - 2 : Nat) : Int)) (by omega) (by omega)) ?_
        refine vc_y rfl rfl (y_as rfl) ?_
        refine vc_end ?_
        refine vq_then ?_
        refine vc_keep [(3, _), (4, _)] ⟨rfl, rfl, trivial⟩ ?_
        refine vc_region ?_
        refine vc_y rfl rfl (y_mv rfl) ?_
        refine vc_y rfl rfl (y_iaa (k := (at_ - 2)) rfl rfl Tryd.underlying44 Tryd.sizeOf5 rfl (by omega)) ?_
        refine vc_e (e_sta (l' := zs (at_ - 2) ++ bytesL (45 :: dec x.natAbs)) st 0 rfl rfl rfl rfl Tryd.sizeOf5 rfl (by rw [zs_len]; omega) (by rw [show 0 + (at_ - 2) * 1 = (at_ - 1) - 1 by omega]; have := zs_set (at_ - 1) (dec x.natAbs) 45 45 (by rfl) (by omega); rw [show at_ - 1 - 1 = at_ - 2 by omega] at this ⊢; exact this) (.inr hb3) ?_)
        intro w st; dsimp only [setNth] at st
        refine vc_end ?_
        refine vq_then ?_
        refine vc_keep [(3, _), (4, _)] ⟨rfl, rfl, trivial⟩ ?_
        refine vc_seq ?_
        refine vc_region ?_
        refine vc_y rfl rfl (y_mv rfl) ?_
        refine vc_y rfl rfl (y_sla (i := _) rfl rfl Tryd.underlying44 Tryd.sizeOf5 rfl (by omega)) ?_
        refine vc_y rfl rfl (y_b2s rfl (blk_rd (st.res (i := 0) rfl)) (by first | (simp only [List.length_cons]; omega) | omega) Tryd.underlying46 Tryd.underlying5 Tryd.underlying9) ?_
        refine vc_y rfl rfl (y_as rfl) ?_
        refine vc_end ?_
        refine vq_then ?_
        refine vc_keep [(2, _)] ⟨rfl, trivial⟩ ?_
        refine vc_ret ?_
        refine vq_ret1 st (.inl rfl) Tryd.results6 (.tmp rfl) ?_
        refine ⟨_, rfl, ?_⟩
        refine ⟨?_, st.chg⟩
        unfold shw
        rw [if_pos (by omega)]
      · intro hc25
        try simp only [decide_eq_true_eq, decide_eq_false_iff_not, Bool.not_eq_true', Bool.not_eq_false', Bool.not_eq_true, Bool.not_eq_false, Int.not_lt, Int.not_le, Nat.not_lt, Nat.not_le, Bool.not_true, Bool.not_false, Bool.true_eq_false, Bool.false_eq_true] at hc25
        refine vc_code_skip ?_
        refine vq_then ?_
        refine vc_keep [(3, _), (4, _)] ⟨rfl, rfl, trivial⟩ ?_
        refine vc_seq ?_
        refine vc_region ?_
        refine vc_y rfl rfl (y_mv rfl) ?_
        refine vc_y rfl rfl (y_sla (i := _) rfl rfl Tryd.underlying44 Tryd.sizeOf5 rfl (by omega)) ?_
        refine vc_y rfl rfl (y_b2s rfl (blk_rd (st.res (i := 0) rfl)) (by first | (simp only [List.length_cons]; omega) | omega) Tryd.underlying46 Tryd.underlying5 Tryd.underlying9) ?_
        refine vc_y rfl rfl (y_as rfl) ?_
        refine vc_end ?_
        refine vq_then ?_
        refine vc_keep [(2, _)] ⟨rfl, trivial⟩ ?_
        refine vc_ret ?_
        refine vq_ret1 st (.inl rfl) Tryd.results6 (.tmp rfl) ?_
        refine ⟨_, rfl, ?_⟩
        refine ⟨?_, st.chg⟩
        unfold shw
        rw [if_neg (by omega)]
    · intro hc23
      try simp only [decide_eq_true_eq, decide_eq_false_iff_not, Bool.not_eq_true', Bool.not_eq_false', Bool.not_eq_true, Bool.not_eq_false, Int.not_lt, Int.not_le, Nat.not_lt, Nat.not_le, Bool.not_true, Bool.not_false, Bool.true_eq_false, Bool.false_eq_true] at hc23
      refine vc_code_skip ?_
      refine vq_block ?_
      refine vq_again (at_ - 1, n / 10, UInt8.ofNat (48 + n % 10) :: t)  ⟨rfl, rfl, rfl, rfl, trivial⟩ st ?_ ?_
      · refine ⟨by simp; omega, ?_, by dsimp only; omega⟩
        dsimp only
        rw [← hdec, dec_big (n := n) (by omega)]; simp
      · dsimp only; omega

end Go.Proofs.YtakepmhgmgpkkaaDoor
