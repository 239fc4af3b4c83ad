/- A part of the proof: contracts of functions and plain laws; each theorem says its own conditions. -/
import Derived.Test.YtakepmhgmgpkkaaO
import Derived.JoinedCond
namespace Go.Proofs.Ytakepmhgmgpkkaa
open Go.ChangeShapes Go.WideShapes Go.ChangeAt Go.RowKit
open Go.ChangeMaps (open_string shut_string)
open Sx LexS
set_option linter.unusedVariables false
set_option linter.unusedSimpArgs false
theorem Try.info3 : Try.prog.info? 3 = some Try.t3 := by kernel_rfl
/-- line and column of the place behind so many bytes -/
def place (s : List UInt8) : Nat → Nat × Nat
  | 0 => (1, 1)
  | k + 1 => if s.getD k 0 = 10 then ((place s k).1 + 1, 1) else ((place s k).1, (place s k).2 + 1)
/-- where the LFs stand ahead of a place -/
def lfs (s : List UInt8) : Nat → List Nat
  | 0 => []
  | k + 1 => if s.getD k 0 = 10 then lfs s k ++ [k] else lfs s k
theorem lfs_lt (s : List UInt8) (k : Nat) : ∀ p ∈ lfs s k, p < k := by
  induction k with
  | zero => simp [lfs]
  | succ k ih =>
    intro p hp
    simp only [lfs] at hp
    split at hp
    · rcases List.mem_append.1 hp with h | h
      · have := ih p h; omega
      · simp at h; omega
    · have := ih p hp; omega
theorem lfs_len (s : List UInt8) (k : Nat) : (lfs s k).length ≤ k := by
  induction k with
  | zero => simp [lfs]
  | succ k ih =>
    simp only [lfs]
    split
    · simp; omega
    · omega
theorem place_lfs (s : List UInt8) (k : Nat) : place s k = ((lfs s k).length + 1, match (lfs s k).getLast? with | none => k + 1 | some p => k - p) := by
  induction k with
  | zero => rfl
  | succ k ih =>
    simp only [place, lfs]
    split
    · rw [ih]; simp
    · rw [ih]
      have hl := lfs_lt s k
      cases h : (lfs s k).getLast? with
      | none => simp
      | some p =>
        have := hl p (List.mem_of_getLast? h)
        simp; omega
theorem place_pos (s : List UInt8) (k : Nat) : (place s k).1 ≤ k + 1 ∧ (place s k).2 ≤ k + 1 := by
  induction k with
  | zero => simp [place]
  | succ k ih => simp only [place]; split <;> simp <;> omega
def intsL (l : List Nat) : List Value := l.map fun (p : Nat) => .int .i64 (p : Int)
theorem shr_one (w : World) (x y : Operand) (m : Nat) (h : m < 18446744073709551616) : (do eqGuard .shr 82 x y (.int .u64 (m : Int)) (.int .u64 1); binOp .shr 82 (.int .u64 (m : Int)) (.int .u64 1) : Sem Value).run Try.prog w = .ok (.int .u64 ((m / 2 : Nat) : Int)) w := by
  simp [go_sem]
def PlacePost (s : List UInt8) (at_ : Int) (v : Value) : Prop :=
  if at_ < 0 ∨ (s.length : Int) < at_ then v = .tuple [.int .i64 0, .int .i64 0, .int .i64 2].toArray
  else v = .tuple [.int .i64 ((place s at_.toNat).1 : Int), .int .i64 ((place s at_.toNat).2 : Int), .int .i64 0].toArray

theorem less_any (b2 b3 g n cap k : Nat) (zs : List Nat) (x : Int) (w : World) (h2 : w.cell? ⟨b2, 0, none⟩ = some (.slice (some ⟨g, 0, none⟩) n cap)) (h3 : w.cell? ⟨b3, 0, none⟩ = some (.int .i64 x))
    (hz : ∀ j, j < n → w.cell? ⟨g, j * 1, none⟩ = some (.int .i64 (zs.getD j 0 : Nat))) (hlt : ∀ j, j < n → ((zs.getD j 0 : Nat) : Int) < x) (hk : k < n) :
    Ret Try.prog 51 [.int .i64 (k : Int), .pointer (some ⟨b2, 0, none⟩), .pointer (some ⟨b3, 0, none⟩)] w fun v w' => v = .bool false ∧ Chg [] w w' := by
  refine ret_of [_, _, _] Try.func51 rfl Try.ntmps51 rfl ?_
  have st := St.init w []
  refine vc_seq ?_
  refine vc_region ?_
  refine vc_y rfl rfl (y_as rfl) ?_
  refine vc_end ?_
  refine vq_then ?_
  refine vc_keep [(0, _), (1, _), (2, _)] ⟨rfl, rfl, rfl, trivial⟩ ?_
  refine vc_seq ?_
  refine vc_draw Try.mixed [(0, true), (1, true), (2, true), (3, true), (4, true), (5, true), (6, true)] (fun w => St _ _ _ w) st (by kernel_rfl) (by repeat (first | exact okQ_body | refine okQ_then ?_ | refine okQ_block ?_)) rfl (by kernel_rfl) ?_
  intro w cd; replace st := st.call0 cd; clear cd
  have hS := st
  refine vp_take rfl rfl rfl hS (fun w st => (by first | exact y_ldc rfl Try.isAgg58 (st.chg.cell h2 (by simp)))) ?_
  refine vp_take rfl rfl rfl hS (fun w st => y_mv rfl) ?_
  refine vp_take rfl rfl rfl hS (fun w st => (by first | exact y_ia0 (k := k) rfl rfl Try.underlying58 Try.sizeOf3 rfl (by omega) | exact y_ia (k := k) rfl rfl Try.underlying58 Try.sizeOf3 rfl (by omega))) ?_
  refine vp_take rfl rfl rfl hS (fun w st => (by first | exact y_ldc rfl Try.isAgg3 (st.chg.cell (hz k hk) (by simp)))) ?_
  refine vp_take rfl rfl rfl hS (fun w st => (by first | exact y_ldc rfl Try.isAgg3 (st.chg.cell h3 (by simp)))) ?_
  refine vp_take rfl rfl rfl hS (fun w st => y_geq rfl rfl) ?_
  refine vp_take rfl rfl rfl hS (fun w st => y_as rfl) ?_
  refine vp_end ?_
  refine vq_then ?_
  refine vc_keep [(4, _)] ⟨rfl, trivial⟩ ?_
  refine vc_ret ?_
  refine vq_ret1 st (.inl rfl) Try.results51 (.tmp rfl) ?_
  refine ⟨_, rfl, ?_⟩
  refine ⟨?_, st.chg⟩
  rw [decide_eq_false]
  have := hlt k hk; omega

def Srch (w : World) (b2 b3 n : Nat) : Prop := ∃ g cap zs x, w.cell? ⟨b2, 0, none⟩ = some (.slice (some ⟨g, 0, none⟩) n cap) ∧ w.cell? ⟨b3, 0, none⟩ = some (.int .i64 x) ∧
    (∀ j, j < n → w.cell? ⟨g, j * 1, none⟩ = some (.int .i64 ((zs : List Nat).getD j 0 : Nat))) ∧ ∀ j, j < n → ((zs.getD j 0 : Nat) : Int) < x

theorem search_any (b2 b3 n : Nat) (w : World) (hh : 0 < n → Srch w b2 b3 n) (hn : n ≤ 3000000000000000000) :
    Ret Try.prog 50 [.int .i64 (n : Int), .func (.func 51) [].toArray [.pointer (some ⟨b2, 0, none⟩), .pointer (some ⟨b3, 0, none⟩)].toArray] w fun v w' => v = .int .i64 (n : Int) ∧ Chg [] w w' := by
  refine ret_of [_, _] Try.func50 rfl Try.ntmps50 rfl ?_
  have st := St.init w []
  refine vc_seq ?_
  refine vc_region ?_
  refine vc_y rfl rfl (y_as rfl) ?_
  refine vc_end ?_
  refine vq_then ?_
  refine vc_keep [(0, _), (1, _)] ⟨rfl, rfl, trivial⟩ ?_
  refine vc_seq ?_
  refine vc_region ?_
  refine vc_y rfl rfl (y_mv rfl) ?_
  refine vc_y rfl rfl (y_as rfl) ?_
  refine vc_y rfl rfl (y_as rfl) ?_
  refine vc_end ?_
  refine vq_then ?_
  refine vc_keep [(1, _), (5, _), (6, _)] ⟨rfl, rfl, rfl, trivial⟩ ?_
  refine vc_seq ?_
  refine vc_block ?_
  refine vc_loop (w0 := _) (M := _) (fun (i : Nat) => [(1, .func (.func 51) [].toArray [.pointer (some ⟨b2, 0, none⟩), .pointer (some ⟨b3, 0, none⟩)].toArray), (5, .int .i64 (i : Int)), (6, .int .i64 (n : Int))]) (fun _ => []) (fun i _ => i ≤ n) (fun i => n - i) 0 ⟨rfl, rfl, rfl, trivial⟩ st (by omega) ?_
  rintro i w hi st
  refine vc_seq ?_
  refine vc_seq ?_
  refine vc_region ?_
  refine vc_y rfl rfl (y_mv rfl) ?_
  refine vc_y rfl rfl (y_mv rfl) ?_
  refine vc_y rfl rfl (y_lss rfl rfl) ?_
  refine vc_end ?_
  refine vq_then ?_
  refine vc_keep [(1, _), (5, _), (6, _), (11, _)] ⟨rfl, rfl, rfl, rfl, trivial⟩ ?_
  refine vc_ifs rfl ?_ ?_
  · intro hc11
    try simp only [decide_eq_true_eq, decide_eq_false_iff_not, Bool.not_eq_true', Bool.not_eq_false', Bool.not_eq_true, Bool.not_eq_false, Int.not_lt, Int.not_le, Nat.not_lt, Nat.not_le, Bool.not_true, Bool.not_false, Bool.true_eq_false, Bool.false_eq_true] at hc11
    obtain ⟨g, cap, zs, x, h2, h3, hz, hlt⟩ := hh (by omega)
    refine vc_code_skip ?_
    refine vq_then ?_
    refine vc_keep [(1, _), (5, _), (6, _)] ⟨rfl, rfl, rfl, trivial⟩ ?_
    refine vc_block ?_
    refine vc_seq ?_
    refine vc_region ?_
    refine vc_y rfl rfl (y_mv rfl) ?_
    refine vc_y rfl rfl (y_mv rfl) ?_
    refine vc_y rfl rfl (y_add rfl rfl (by omega : _ = ((i + n : Nat) : Int)) (by omega) (by omega)) ?_
    refine vc_y rfl rfl (y_cvi rfl Try.underlying82 Try.underlying3 (by rw [wrap_u64]; omega : _ = ((i + n : Nat) : Int))) ?_
    refine vc_y rfl rfl (y_bo (r := .int .u64 (((i + n) / 2 : Nat) : Int)) rfl rfl (shr_one _ _ _ _ (by omega))) ?_
    refine vc_y rfl rfl (y_cvi rfl Try.underlying3 Try.underlying82 (IntWalk.i64_in _ ⟨by omega, by omega⟩ : _ = (((i + n) / 2 : Nat) : Int))) ?_
    refine vc_y rfl rfl (y_as rfl) ?_
    refine vc_end ?_
    refine vq_then ?_
    refine vc_keep [(1, _), (5, _), (6, _), (7, _)] ⟨rfl, rfl, rfl, rfl, trivial⟩ ?_
    refine vc_seq ?_
    refine vc_region ?_
    refine vc_y rfl rfl (y_mv rfl) ?_
    refine vc_y rfl rfl (y_mv rfl) ?_
    refine vc_e (e_callv [_] rfl rfl rfl Try.call51 rfl (less_any b2 b3 g n cap ((i + n) / 2) zs x _ (st.chg.cell h2 (by simp)) (st.chg.cell h3 (by simp)) (fun j hj => st.chg.cell (hz j hj) (by simp)) hlt (by omega)) ?_)
    rintro _ w ⟨rfl, cw⟩
    replace st := st.call0 cw
    refine vc_y rfl rfl (y_not rfl) ?_
    refine vc_end ?_
    refine vq_then ?_
    refine vc_keep [(1, _), (5, _), (6, _), (7, _), (21, _)] ⟨rfl, rfl, rfl, rfl, rfl, trivial⟩ ?_
    refine vc_ifs rfl ?_ ?_
    · intro hc21
      try simp only [decide_eq_true_eq, decide_eq_false_iff_not, Bool.not_eq_true', Bool.not_eq_false', Bool.not_eq_true, Bool.not_eq_false, Int.not_lt, Int.not_le, Nat.not_lt, Nat.not_le, Bool.not_true, Bool.not_false, Bool.true_eq_false, Bool.false_eq_true] at hc21
      refine vc_region ?_
      refine vc_y rfl rfl (y_mv rfl) ?_
      refine vc_y rfl rfl (y_add rfl rfl (by omega : _ = (((i + n) / 2 + 1 : Nat) : Int)) (by omega) (by omega)) ?_
      refine vc_y rfl rfl (y_as rfl) ?_
      refine vc_end ?_
      refine vq_block ?_
      refine vq_again ((i + n) / 2 + 1) ⟨rfl, rfl, rfl, trivial⟩ st ?_ ?_
      · omega
      · omega
    · intro hc21
      simp at hc21
  · intro hc11
    try simp only [decide_eq_true_eq, decide_eq_false_iff_not, Bool.not_eq_true', Bool.not_eq_false', Bool.not_eq_true, Bool.not_eq_false, Int.not_lt, Int.not_le, Nat.not_lt, Nat.not_le, Bool.not_true, Bool.not_false, Bool.true_eq_false, Bool.false_eq_true] at hc11
    refine vc_exit ?_
    refine vq_then_exit ?_
    refine vq_then_exit ?_
    refine vq_block_exit ?_
    refine vq_then ?_
    refine vc_keep [(5, _)] ⟨rfl, trivial⟩ ?_
    refine vc_seq ?_
    refine vc_region ?_
    refine vc_y rfl rfl (y_mv rfl) ?_
    refine vc_y rfl rfl (y_as rfl) ?_
    refine vc_end ?_
    refine vq_then ?_
    refine vc_keep [(4, _)] ⟨rfl, trivial⟩ ?_
    refine vc_ret ?_
    refine vq_ret1 st (.inl rfl) Try.results50 (.tmp rfl) ?_
    refine ⟨_, rfl, ?_⟩
    refine ⟨?_, st.chg⟩
    rw [show i = n by omega]

theorem searchInts_any (l : List Nat) (oa : Option Addr) (cap base : Nat) (x : Int) (w : World) (ho : w.ownsRow base 3 1 (.slice oa l.length cap) l.length (intsL l)) (hlt : ∀ p ∈ l, (p : Int) < x) (hn : l.length ≤ 3000000000000000000) :
    Ret Try.prog 39 [.slice oa l.length cap, .int .i64 x] w fun v w' => v = .int .i64 (l.length : Int) ∧ Chg [] w w' := by
  refine ret_of [_, _] Try.func39 rfl Try.ntmps39 rfl ?_
  have st := St.init w []
  refine vc_seq ?_
  refine vc_region ?_
  refine vc_e (e_bx (l := [_]) st rfl rfl rfl rfl ?_)
  intro b2 w hb2 st
  refine vc_e (e_bx (l := [_]) st rfl rfl rfl rfl ?_)
  intro b3 w hb3 st
  refine vc_y rfl rfl (y_as rfl) ?_
  refine vc_end ?_
  refine vq_then ?_
  refine vc_keep [(2, _), (3, _)] ⟨rfl, rfl, trivial⟩ ?_
  refine vc_seq ?_
  refine vc_region ?_
  refine vc_y rfl rfl ((by first | exact y_ld st 0 rfl Try.isAgg58 rfl rfl | exact y_ld st 1 rfl Try.isAgg58 rfl rfl)) ?_
  refine vc_y rfl rfl (y_lensl rfl Try.underlying58) ?_
  refine vc_y rfl rfl (y_mf [] [_, _] rfl rfl) ?_
  refine vc_e (e_call [_, _] rfl rfl Try.call50 rfl (search_any b2 b3 l.length _ (fun h0 => by
    obtain ⟨g, cap', e, _⟩ := own_form ho h0
    simp only [Value.slice.injEq] at e
    obtain ⟨rfl, -, rfl⟩ := e
    refine ⟨g, cap, l, x, cell_blk (st.res (i := 1) rfl) rfl, cell_blk (st.res (i := 0) rfl) rfl, fun j hj => st.chg.cell (own_cell ho ?_) (by simp), fun j hj => hlt _ ?_⟩
    · simp [intsL, hj]
    · simp [List.getD, hj]) hn) ?_)
  rintro _ w ⟨rfl, cw⟩
  replace st := st.call0 cw
  refine vc_y rfl rfl (y_as rfl) ?_
  refine vc_end ?_
  refine vq_then ?_
  refine vc_keep [(4, _)] ⟨rfl, trivial⟩ ?_
  refine vc_ret ?_
  refine vq_ret1 st (.inl rfl) Try.results39 (.tmp rfl) ?_
  refine ⟨_, rfl, ?_⟩
  exact ⟨rfl, st.chg⟩

set_option maxHeartbeats 1000000 in
theorem place_any (s : List UInt8) (at_ : Int) (w : World) (hs : s.length ≤ 1048576) (h64 : -9223372036854775808 ≤ at_ ∧ at_ ≤ 9223372036854775807) : Ret Try.prog 26 [str s, .int .i64 at_] w fun v w' => PlacePost s at_ v ∧ Chg [] w w' := by
  refine ret_of [_, _] Try.func26 rfl Try.ntmps26 rfl ?_
  have st := St.init w []
  refine vc_seq ?_
  refine vc_region ?_
  refine vc_y rfl rfl (y_as rfl) ?_
  refine vc_y rfl rfl (y_as rfl) ?_
  refine vc_y rfl rfl (y_as rfl) ?_
  refine vc_end ?_
  refine vq_then ?_
  refine vc_keep [(0, _), (1, _)] ⟨rfl, rfl, trivial⟩ ?_
  refine vc_seq ?_
  refine vc_seq ?_
  refine vc_region ?_
  refine vc_y rfl rfl (y_mv rfl) ?_
  refine vc_y rfl rfl (y_lss rfl rfl) ?_
  refine vc_e (e_mvb rfl rfl rfl ?_ ?_)
  · intro hg13
    try simp only [decide_eq_true_eq, decide_eq_false_iff_not, Bool.not_eq_true', Bool.not_eq_false', Bool.not_eq_true, Bool.not_eq_false, Int.not_lt, Int.not_le, Nat.not_lt, Nat.not_le, Bool.not_true, Bool.not_false, Bool.true_eq_false, Bool.false_eq_true] at hg13
    refine vc_e (e_skip rfl rfl ?_)
    refine vc_e (e_skip rfl rfl ?_)
    refine vc_e (e_skip rfl rfl ?_)
    refine vc_e (e_skip rfl rfl ?_)
    refine vc_y rfl rfl (y_pickt rfl rfl) ?_
    refine vc_end ?_
    refine vq_then ?_
    refine vc_keep [(0, _), (1, _), (18, _)] ⟨rfl, rfl, rfl, trivial⟩ ?_
    refine vc_ift rfl ?_
    refine vc_seq ?_
    refine vc_region ?_
    refine vc_y rfl rfl (y_as rfl) ?_
    refine vc_y rfl rfl (y_as rfl) ?_
    refine vc_y rfl rfl (y_as rfl) ?_
    refine vc_end ?_
    refine vq_then ?_
    refine vc_keep [(4, _), (5, _), (6, _)] ⟨rfl, rfl, rfl, trivial⟩ ?_
    refine vc_ret ?_
    refine vq_then_ret ?_
    refine vq_ret3 st (.inl rfl) Try.results26 (.tmp rfl) (.tmp rfl) (.tmp rfl) ?_
    refine ⟨_, rfl, ?_⟩
    refine ⟨?_, st.chg⟩
    unfold PlacePost
    rw [if_pos (by omega)]
  · intro hg13
    try simp only [decide_eq_true_eq, decide_eq_false_iff_not, Bool.not_eq_true', Bool.not_eq_false', Bool.not_eq_true, Bool.not_eq_false, Int.not_lt, Int.not_le, Nat.not_lt, Nat.not_le, Bool.not_true, Bool.not_false, Bool.true_eq_false, Bool.false_eq_true] at hg13
    refine vc_y rfl rfl (y_mv rfl) ?_
    refine vc_y rfl rfl (y_mv rfl) ?_
    refine vc_y rfl rfl (y_lens rfl Try.underlying9) ?_
    refine vc_y rfl rfl (y_gtr rfl rfl) ?_
    refine vc_y rfl rfl (y_pickf rfl rfl) ?_
    refine vc_end ?_
    refine vq_then ?_
    refine vc_keep [(0, _), (1, _), (18, _)] ⟨rfl, rfl, rfl, trivial⟩ ?_
    refine vc_ifs rfl ?_ ?_
    · intro hc18
      try simp only [decide_eq_true_eq, decide_eq_false_iff_not, Bool.not_eq_true', Bool.not_eq_false', Bool.not_eq_true, Bool.not_eq_false, Int.not_lt, Int.not_le, Nat.not_lt, Nat.not_le, Bool.not_true, Bool.not_false, Bool.true_eq_false, Bool.false_eq_true] at hc18
      refine vc_seq ?_
      refine vc_region ?_
      refine vc_y rfl rfl (y_as rfl) ?_
      refine vc_y rfl rfl (y_as rfl) ?_
      refine vc_y rfl rfl (y_as rfl) ?_
      refine vc_end ?_
      refine vq_then ?_
      refine vc_keep [(4, _), (5, _), (6, _)] ⟨rfl, rfl, rfl, trivial⟩ ?_
      refine vc_ret ?_
      refine vq_then_ret ?_
      refine vq_ret3 st (.inl rfl) Try.results26 (.tmp rfl) (.tmp rfl) (.tmp rfl) ?_
      refine ⟨_, rfl, ?_⟩
      refine ⟨?_, st.chg⟩
      unfold PlacePost
      rw [if_pos (by omega)]
    · intro hc18
      try simp only [decide_eq_true_eq, decide_eq_false_iff_not, Bool.not_eq_true', Bool.not_eq_false', Bool.not_eq_true, Bool.not_eq_false, Int.not_lt, Int.not_le, Nat.not_lt, Nat.not_le, Bool.not_true, Bool.not_false, Bool.true_eq_false, Bool.false_eq_true] at hc18
      obtain ⟨n, rfl⟩ : ∃ n : Nat, at_ = (n : Int) := ⟨at_.toNat, by omega⟩
      replace st := st.ownNil 3 1
      refine vc_code_skip ?_
      refine vq_then ?_
      refine vc_keep [(0, _), (1, _)] ⟨rfl, rfl, trivial⟩ ?_
      refine vc_seq ?_
      refine vc_region ?_
      refine vc_y rfl rfl (y_as rfl) ?_
      refine vc_end ?_
      refine vq_then ?_
      refine vc_keep [(0, _), (1, _), (7, _)] ⟨rfl, rfl, rfl, trivial⟩ ?_
      refine vc_seq ?_
      refine vc_seq ?_
      refine vc_region ?_
      refine vc_y rfl rfl (y_mv rfl) ?_
      refine vc_y rfl rfl (y_mv rfl) ?_
      refine vc_end ?_
      refine vq_then ?_
      refine vc_keep [(0, _), (1, _), (7, _), (19, _), (20, _)] ⟨rfl, rfl, rfl, rfl, rfl, trivial⟩ ?_
      refine vc_block ?_
      refine vc_loop (w0 := _) (M := _) (fun (x : Nat × Option Addr × Nat) => [(0, str s), (1, .int .i64 (n : Int)), (7, .slice x.2.1 (lfs s x.1).length x.2.2), (19, .int .i64 (n : Int)), (20, .int .i64 (x.1 : Int))]) (fun x => [.own (.slice x.2.1 (lfs s x.1).length x.2.2) 3 1 (lfs s x.1).length (intsL (lfs s x.1))]) (fun x _ => x.1 ≤ n) (fun x => n - x.1) (0, none, 0) ⟨rfl, rfl, rfl, rfl, rfl, trivial⟩ st (by simp) ?_
      rintro ⟨j, oa, cap⟩ w hj st
      dsimp only at *
      have hll := lfs_len s j
      refine vc_seq ?_
      refine vc_region ?_
      refine vc_y rfl rfl (y_lss rfl rfl) ?_
      refine vc_end ?_
      refine vq_then ?_
      refine vc_keep [(0, _), (1, _), (7, _), (19, _), (20, _), (21, _)] ⟨rfl, rfl, rfl, rfl, rfl, rfl, trivial⟩ ?_
      refine vc_seq ?_
      refine vc_ifs rfl ?_ ?_
      · intro hc21
        try simp only [decide_eq_true_eq, decide_eq_false_iff_not, Bool.not_eq_true', Bool.not_eq_false', Bool.not_eq_true, Bool.not_eq_false, Int.not_lt, Int.not_le, Nat.not_lt, Nat.not_le, Bool.not_true, Bool.not_false, Bool.true_eq_false, Bool.false_eq_true] at hc21
        refine vc_code_skip ?_
        refine vq_then ?_
        refine vc_keep [(0, _), (1, _), (7, _), (19, _), (20, _)] ⟨rfl, rfl, rfl, rfl, rfl, trivial⟩ ?_
        refine vc_seq ?_
        refine vc_block ?_
        refine vc_seq ?_
        refine vc_region ?_
        refine vc_y rfl rfl (y_mv rfl) ?_
        refine vc_y rfl rfl (y_as rfl) ?_
        refine vc_end ?_
        refine vq_then ?_
        refine vc_keep [(0, _), (1, _), (7, _), (8, _), (19, _), (20, _)] ⟨rfl, rfl, rfl, rfl, rfl, rfl, trivial⟩ ?_
        refine vc_seq ?_
        refine vc_region ?_
        refine vc_y rfl rfl (y_mv rfl) ?_
        refine vc_y rfl rfl (y_mv rfl) ?_
        refine vc_y rfl rfl (y_ixs (k := _) rfl rfl Try.underlying9 rfl (by omega)) ?_
        refine vc_y rfl rfl (y_eqi rfl rfl) ?_
        refine vc_end ?_
        refine vq_then ?_
        refine vc_keep [(0, _), (1, _), (7, _), (8, _), (19, _), (20, _), (26, _)] ⟨rfl, rfl, rfl, rfl, rfl, rfl, rfl, trivial⟩ ?_
        refine vc_ifs rfl ?_ ?_
        · intro hc26
          try simp only [decide_eq_true_eq, decide_eq_false_iff_not, Bool.not_eq_true', Bool.not_eq_false', Bool.not_eq_true, Bool.not_eq_false, Int.not_lt, Int.not_le, Nat.not_lt, Nat.not_le, Bool.not_true, Bool.not_false, Bool.true_eq_false, Bool.false_eq_true] at hc26
          refine vc_region ?_
          refine vc_y rfl rfl (y_mv rfl) ?_
          refine vc_y rfl rfl (y_mv rfl) ?_
          refine vc_e (e_bs1 (l := [_]) st rfl rfl rfl rfl Try.underlying58 Try.sizeOf3 rfl rfl rfl Try.zeroValue3 ?_)
          intro b29 w hb29 st
          refine vc_e (e_app (bytes := 8) st 1 0 rfl rfl rfl rfl rfl rfl Try.underlying58 Try.info3 rfl rfl rfl rfl rfl (by simp) rfl rfl (by unfold maxLen; omega) (by omega) ?_)
          intro oa30 cap30 w st; dsimp only [setNth] at st
          refine vc_y rfl rfl (y_as rfl) ?_
          refine vc_end ?_
          refine vq_block ?_
          refine vq_then ?_
          refine vc_keep [(0, _), (1, _), (7, _), (19, _), (20, _)] ⟨rfl, rfl, rfl, rfl, rfl, trivial⟩ ?_
          refine vc_region ?_
          refine vc_y rfl rfl (y_add rfl rfl rfl (by omega) (by omega)) ?_
          refine vc_y rfl rfl (y_mv rfl) ?_
          refine vc_end ?_
          have e : lfs s (j + 1) = lfs s j ++ [j] := by simp only [lfs]; rw [if_pos (UInt8.toNat_inj.1 (by simp only [UInt8.reduceToNat]; omega))]
          refine vq_again (j + 1, oa30, cap30) ⟨rfl, rfl, by rw [e]; simp only [List.length_append, List.length_cons, List.length_nil]; rfl, rfl, rfl, trivial⟩ ?_ (by dsimp only; omega) (by dsimp only; omega)
          dsimp only
          rw [e]
          simp only [List.length_append, List.length_cons, List.length_nil, intsL, List.map_append, List.map_cons, List.map_nil]
          exact st.drop (by repeat (first | exact List.Sublist.slnil | apply List.Sublist.cons_cons | apply List.Sublist.cons))
        · intro hc26
          try simp only [decide_eq_true_eq, decide_eq_false_iff_not, Bool.not_eq_true', Bool.not_eq_false', Bool.not_eq_true, Bool.not_eq_false, Int.not_lt, Int.not_le, Nat.not_lt, Nat.not_le, Bool.not_true, Bool.not_false, Bool.true_eq_false, Bool.false_eq_true] at hc26
          refine vc_code_skip ?_
          refine vq_block ?_
          refine vq_then ?_
          refine vc_keep [(0, _), (1, _), (7, _), (19, _), (20, _)] ⟨rfl, rfl, rfl, rfl, rfl, trivial⟩ ?_
          refine vc_region ?_
          refine vc_y rfl rfl (y_add rfl rfl rfl (by omega) (by omega)) ?_
          refine vc_y rfl rfl (y_mv rfl) ?_
          refine vc_end ?_
          have e : lfs s (j + 1) = lfs s j := by
            simp only [lfs]; rw [if_neg]; intro h; rw [h] at hc26; exact hc26 rfl
          refine vq_again (j + 1, oa, cap) ⟨rfl, rfl, by rw [e]; rfl, rfl, rfl, trivial⟩ ?_ (by dsimp only; omega) (by dsimp only; omega)
          dsimp only
          rw [e]
          exact st
      · intro hc21
        try simp only [decide_eq_true_eq, decide_eq_false_iff_not, Bool.not_eq_true', Bool.not_eq_false', Bool.not_eq_true, Bool.not_eq_false, Int.not_lt, Int.not_le, Nat.not_lt, Nat.not_le, Bool.not_true, Bool.not_false, Bool.true_eq_false, Bool.false_eq_true] at hc21
        obtain rfl : j = n := by omega
        have hlt := lfs_lt s j
        refine vc_exit ?_
        refine vq_then_exit ?_
        refine vq_then_exit ?_
        refine vq_block_exit ?_
        refine vq_then ?_
        refine vc_keep [(1, _), (7, _)] ⟨rfl, rfl, trivial⟩ ?_
        refine vc_seq ?_
        refine vc_region ?_
        refine vc_y rfl rfl (y_mv rfl) ?_
        refine vc_y rfl rfl (y_mv rfl) ?_
        refine vc_e (e_call [_, _] rfl rfl Try.call39 rfl (searchInts_any (lfs s j) oa cap _ _ _ (st.res (i := 0) rfl) (fun p hp => by have := hlt p hp; omega) (by omega)) ?_)
        rintro _ w ⟨rfl, cw⟩
        replace st := st.call0 cw
        refine vc_y rfl rfl (y_as rfl) ?_
        refine vc_end ?_
        refine vq_then ?_
        refine vc_keep [(1, _), (7, _), (9, _)] ⟨rfl, rfl, rfl, trivial⟩ ?_
        refine vc_seq ?_
        refine vc_region ?_
        refine vc_y rfl rfl (y_mv rfl) ?_
        refine vc_y rfl rfl (y_add rfl rfl rfl (by omega) (by omega)) ?_
        refine vc_y rfl rfl (y_as rfl) ?_
        refine vc_end ?_
        refine vq_then ?_
        refine vc_keep [(1, _), (7, _), (9, _), (10, _)] ⟨rfl, rfl, rfl, rfl, trivial⟩ ?_
        refine vc_seq ?_
        refine vc_seq ?_
        refine vc_region ?_
        refine vc_y rfl rfl (y_mv rfl) ?_
        refine vc_y rfl rfl (y_gtr rfl rfl) ?_
        refine vc_end ?_
        refine vq_then ?_
        refine vc_keep [(1, _), (7, _), (9, _), (10, _), (38, _)] ⟨rfl, rfl, rfl, rfl, rfl, trivial⟩ ?_
        refine vc_ifs rfl ?_ ?_
        · intro hc38
          try simp only [decide_eq_true_eq, decide_eq_false_iff_not, Bool.not_eq_true', Bool.not_eq_false', Bool.not_eq_true, Bool.not_eq_false, Int.not_lt, Int.not_le, Nat.not_lt, Nat.not_le, Bool.not_true, Bool.not_false, Bool.true_eq_false, Bool.false_eq_true] at hc38
          obtain ⟨g, cap', e', _⟩ := own_form (st.res (i := 0) rfl) (by omega)
          simp only [Value.slice.injEq] at e'
          obtain ⟨rfl, -, rfl⟩ := e'
          obtain ⟨p, hp⟩ : ∃ p, (lfs s j).getLast? = some p := by
            cases h : (lfs s j).getLast? with
            | none => rw [List.getLast?_eq_none_iff] at h; rw [h] at hc38; simp at hc38
            | some p => exact ⟨p, rfl⟩
          have hpj := hlt p (List.mem_of_getLast? hp)
          have hcell : (intsL (lfs s j))[((lfs s j).length - 1) * 1]? = some (.int .i64 (p : Int)) := by
            rw [List.getLast?_eq_getElem?] at hp
            rw [Nat.mul_one]
            simp [intsL, hp]
          refine vc_region ?_
          refine vc_y rfl rfl (y_mv rfl) ?_
          refine vc_y rfl rfl (y_mv rfl) ?_
          refine vc_y rfl rfl (y_mv rfl) ?_
          refine vc_y rfl rfl (y_sub rfl rfl (by omega : _ = (((lfs s j).length - 1 : Nat) : Int)) (by omega) (by omega)) ?_
          refine vc_y rfl rfl ((by first | exact y_ia0 (k := ((lfs s j).length - 1)) rfl rfl Try.underlying58 Try.sizeOf3 rfl (by omega) | exact y_ia (k := ((lfs s j).length - 1)) rfl rfl Try.underlying58 Try.sizeOf3 rfl (by omega))) ?_
          refine vc_y rfl rfl ((by first | exact y_ldo st 0 rfl Try.isAgg3 rfl hcell | exact y_ld st 0 rfl Try.isAgg3 rfl rfl | exact y_ld st 1 rfl Try.isAgg3 rfl rfl)) ?_
          refine vc_y rfl rfl (y_sub rfl rfl rfl (by omega) (by omega)) ?_
          refine vc_y rfl rfl (y_as rfl) ?_
          refine vc_end ?_
          refine vq_then ?_
          refine vc_keep [(9, _), (10, _)] ⟨rfl, rfl, trivial⟩ ?_
          refine vc_seq ?_
          refine vc_region ?_
          refine vc_y rfl rfl (y_mv rfl) ?_
          refine vc_y rfl rfl (y_add rfl rfl rfl (by omega) (by omega)) ?_
          refine vc_y rfl rfl (y_mv rfl) ?_
          refine vc_y rfl rfl (y_as rfl) ?_
          refine vc_y rfl rfl (y_as rfl) ?_
          refine vc_y rfl rfl (y_as rfl) ?_
          refine vc_end ?_
          refine vq_then ?_
          refine vc_keep [(4, _), (5, _), (6, _)] ⟨rfl, rfl, rfl, trivial⟩ ?_
          refine vc_ret ?_
          refine vq_ret3 st (.inl rfl) Try.results26 (.tmp rfl) (.tmp rfl) (.tmp rfl) ?_
          refine ⟨_, rfl, ?_⟩
          refine ⟨?_, st.chg⟩
          unfold PlacePost
          rw [if_neg (by omega), Int.toNat_natCast, place_lfs]
          first
          | (rw [hp]; dsimp only; rw [show ((j - p : Nat) : Int) = (j : Int) - p by omega]; rfl)
          | (have h0 : lfs s j = [] := List.eq_nil_of_length_eq_zero (by omega)
             rw [h0]; rfl)
        · intro hc38
          try simp only [decide_eq_true_eq, decide_eq_false_iff_not, Bool.not_eq_true', Bool.not_eq_false', Bool.not_eq_true, Bool.not_eq_false, Int.not_lt, Int.not_le, Nat.not_lt, Nat.not_le, Bool.not_true, Bool.not_false, Bool.true_eq_false, Bool.false_eq_true] at hc38
          refine vc_code_skip ?_
          refine vq_then ?_
          refine vc_keep [(9, _), (10, _)] ⟨rfl, rfl, trivial⟩ ?_
          refine vc_seq ?_
          refine vc_region ?_
          refine vc_y rfl rfl (y_mv rfl) ?_
          refine vc_y rfl rfl (y_add rfl rfl rfl (by omega) (by omega)) ?_
          refine vc_y rfl rfl (y_mv rfl) ?_
          refine vc_y rfl rfl (y_as rfl) ?_
          refine vc_y rfl rfl (y_as rfl) ?_
          refine vc_y rfl rfl (y_as rfl) ?_
          refine vc_end ?_
          refine vq_then ?_
          refine vc_keep [(4, _), (5, _), (6, _)] ⟨rfl, rfl, rfl, trivial⟩ ?_
          refine vc_ret ?_
          refine vq_ret3 st (.inl rfl) Try.results26 (.tmp rfl) (.tmp rfl) (.tmp rfl) ?_
          refine ⟨_, rfl, ?_⟩
          refine ⟨?_, st.chg⟩
          unfold PlacePost
          rw [if_neg (by omega), Int.toNat_natCast, place_lfs]
          first
          | (rw [hp]; dsimp only; rw [show ((j - p : Nat) : Int) = (j : Int) - p by omega]; rfl)
          | (have h0 : lfs s j = [] := List.eq_nil_of_length_eq_zero (by omega)
             rw [h0]; rfl)

set_option maxHeartbeats 1000000 in
theorem rplace_any (s : List UInt8) (at_ : Int) (w : World) (hs : s.length ≤ 1048576) (h64 : -9223372036854775808 ≤ at_ ∧ at_ ≤ 9223372036854775807) : Ret Try.prog 27 [str s, .int .i64 at_] w fun v w' => PlacePost s at_ v ∧ Chg [] w w' := by
  refine ret_of [_, _] Try.func27 rfl Try.ntmps27 rfl ?_
  have st := St.init w []
  refine vc_seq ?_
  refine vc_region ?_
  refine vc_y rfl rfl (y_as rfl) ?_
  refine vc_y rfl rfl (y_as rfl) ?_
  refine vc_y rfl rfl (y_as rfl) ?_
  refine vc_end ?_
  refine vq_then ?_
  refine vc_keep [(0, _), (1, _)] ⟨rfl, rfl, trivial⟩ ?_
  refine vc_seq ?_
  refine vc_seq ?_
  refine vc_region ?_
  refine vc_y rfl rfl (y_mv rfl) ?_
  refine vc_y rfl rfl (y_lss rfl rfl) ?_
  refine vc_e (e_mvb rfl rfl rfl ?_ ?_)
  · intro hg12
    try simp only [decide_eq_true_eq, decide_eq_false_iff_not, Bool.not_eq_true', Bool.not_eq_false', Bool.not_eq_true, Bool.not_eq_false, Int.not_lt, Int.not_le, Nat.not_lt, Nat.not_le, Bool.not_true, Bool.not_false, Bool.true_eq_false, Bool.false_eq_true] at hg12
    refine vc_e (e_skip rfl rfl ?_)
    refine vc_e (e_skip rfl rfl ?_)
    refine vc_e (e_skip rfl rfl ?_)
    refine vc_e (e_skip rfl rfl ?_)
    refine vc_y rfl rfl (y_pickt rfl rfl) ?_
    refine vc_end ?_
    refine vq_then ?_
    refine vc_keep [(0, _), (1, _), (17, _)] ⟨rfl, rfl, rfl, trivial⟩ ?_
    refine vc_ift rfl ?_
    refine vc_seq ?_
    refine vc_region ?_
    refine vc_y rfl rfl (y_as rfl) ?_
    refine vc_y rfl rfl (y_as rfl) ?_
    refine vc_y rfl rfl (y_as rfl) ?_
    refine vc_end ?_
    refine vq_then ?_
    refine vc_keep [(4, _), (5, _), (6, _)] ⟨rfl, rfl, rfl, trivial⟩ ?_
    refine vc_ret ?_
    refine vq_then_ret ?_
    refine vq_ret3 st (.inl rfl) Try.results27 (.tmp rfl) (.tmp rfl) (.tmp rfl) ?_
    refine ⟨_, rfl, ?_⟩
    refine ⟨?_, st.chg⟩
    unfold PlacePost
    rw [if_pos (by omega)]
  · intro hg12
    try simp only [decide_eq_true_eq, decide_eq_false_iff_not, Bool.not_eq_true', Bool.not_eq_false', Bool.not_eq_true, Bool.not_eq_false, Int.not_lt, Int.not_le, Nat.not_lt, Nat.not_le, Bool.not_true, Bool.not_false, Bool.true_eq_false, Bool.false_eq_true] at hg12
    refine vc_y rfl rfl (y_mv rfl) ?_
    refine vc_y rfl rfl (y_mv rfl) ?_
    refine vc_y rfl rfl (y_lens rfl Try.underlying9) ?_
    refine vc_y rfl rfl (y_gtr rfl rfl) ?_
    refine vc_y rfl rfl (y_pickf rfl rfl) ?_
    refine vc_end ?_
    refine vq_then ?_
    refine vc_keep [(0, _), (1, _), (17, _)] ⟨rfl, rfl, rfl, trivial⟩ ?_
    refine vc_ifs rfl ?_ ?_
    · intro hc17
      try simp only [decide_eq_true_eq, decide_eq_false_iff_not, Bool.not_eq_true', Bool.not_eq_false', Bool.not_eq_true, Bool.not_eq_false, Int.not_lt, Int.not_le, Nat.not_lt, Nat.not_le, Bool.not_true, Bool.not_false, Bool.true_eq_false, Bool.false_eq_true] at hc17
      refine vc_seq ?_
      refine vc_region ?_
      refine vc_y rfl rfl (y_as rfl) ?_
      refine vc_y rfl rfl (y_as rfl) ?_
      refine vc_y rfl rfl (y_as rfl) ?_
      refine vc_end ?_
      refine vq_then ?_
      refine vc_keep [(4, _), (5, _), (6, _)] ⟨rfl, rfl, rfl, trivial⟩ ?_
      refine vc_ret ?_
      refine vq_then_ret ?_
      refine vq_ret3 st (.inl rfl) Try.results27 (.tmp rfl) (.tmp rfl) (.tmp rfl) ?_
      refine ⟨_, rfl, ?_⟩
      refine ⟨?_, st.chg⟩
      unfold PlacePost
      rw [if_pos (by omega)]
    · intro hc17
      try simp only [decide_eq_true_eq, decide_eq_false_iff_not, Bool.not_eq_true', Bool.not_eq_false', Bool.not_eq_true, Bool.not_eq_false, Int.not_lt, Int.not_le, Nat.not_lt, Nat.not_le, Bool.not_true, Bool.not_false, Bool.true_eq_false, Bool.false_eq_true] at hc17
      obtain ⟨n, rfl⟩ : ∃ n : Nat, at_ = (n : Int) := ⟨at_.toNat, by omega⟩
      refine vc_code_skip ?_
      refine vq_then ?_
      refine vc_keep [(0, _), (1, _)] ⟨rfl, rfl, trivial⟩ ?_
      refine vc_seq ?_
      refine vc_region ?_
      refine vc_y rfl rfl (y_as rfl) ?_
      refine vc_y rfl rfl (y_as rfl) ?_
      refine vc_end ?_
      refine vq_then ?_
      refine vc_keep [(0, _), (1, _), (7, _), (8, _)] ⟨rfl, rfl, rfl, rfl, trivial⟩ ?_
      refine vc_seq ?_
      refine vc_seq ?_
      refine vc_region ?_
      refine vc_y rfl rfl (y_as rfl) ?_
      refine vc_end ?_
      refine vq_then ?_
      refine vc_keep [(0, _), (1, _), (7, _), (8, _), (9, _)] ⟨rfl, rfl, rfl, rfl, rfl, trivial⟩ ?_
      refine vc_block ?_
      refine vc_loop (w0 := _) (M := _) (fun (j : Nat) => [(0, str s), (1, .int .i64 (n : Int)), (7, .int .i64 ((place s j).1 : Int)), (8, .int .i64 ((place s j).2 : Int)), (9, .int .i64 (j : Int))]) (fun _ => []) (fun j _ => j ≤ n) (fun j => n - j) 0 ⟨rfl, rfl, rfl, rfl, rfl, trivial⟩ st (by simp) ?_
      rintro j w hj st
      have hpp := place_pos s j
      refine vc_seq ?_
      refine vc_seq ?_
      refine vc_region ?_
      refine vc_y rfl rfl (y_mv rfl) ?_
      refine vc_y rfl rfl (y_mv rfl) ?_
      refine vc_y rfl rfl (y_lss rfl rfl) ?_
      refine vc_end ?_
      refine vq_then ?_
      refine vc_keep [(0, _), (1, _), (7, _), (8, _), (9, _), (20, _)] ⟨rfl, rfl, rfl, rfl, rfl, rfl, trivial⟩ ?_
      refine vc_ifs rfl ?_ ?_
      · intro hc20
        try simp only [decide_eq_true_eq, decide_eq_false_iff_not, Bool.not_eq_true', Bool.not_eq_false', Bool.not_eq_true, Bool.not_eq_false, Int.not_lt, Int.not_le, Nat.not_lt, Nat.not_le, Bool.not_true, Bool.not_false, Bool.true_eq_false, Bool.false_eq_true] at hc20
        refine vc_code_skip ?_
        refine vq_then ?_
        refine vc_keep [(0, _), (1, _), (7, _), (8, _), (9, _)] ⟨rfl, rfl, rfl, rfl, rfl, trivial⟩ ?_
        refine vc_seq ?_
        refine vc_block ?_
        refine vc_seq ?_
        refine vc_region ?_
        refine vc_y rfl rfl (y_mv rfl) ?_
        refine vc_y rfl rfl (y_add rfl rfl rfl (by omega) (by omega)) ?_
        refine vc_y rfl rfl (y_as rfl) ?_
        refine vc_end ?_
        refine vq_then ?_
        refine vc_keep [(0, _), (1, _), (7, _), (8, _), (9, _)] ⟨rfl, rfl, rfl, rfl, rfl, trivial⟩ ?_
        refine vc_seq ?_
        refine vc_region ?_
        refine vc_y rfl rfl (y_mv rfl) ?_
        refine vc_y rfl rfl (y_mv rfl) ?_
        refine vc_y rfl rfl (y_ixs (k := _) rfl rfl Try.underlying9 rfl (by omega)) ?_
        refine vc_y rfl rfl (y_eqi rfl rfl) ?_
        refine vc_end ?_
        refine vq_then ?_
        refine vc_keep [(0, _), (1, _), (7, _), (8, _), (9, _), (28, _)] ⟨rfl, rfl, rfl, rfl, rfl, rfl, trivial⟩ ?_
        refine vc_ifs rfl ?_ ?_
        · intro hc28
          try simp only [decide_eq_true_eq, decide_eq_false_iff_not, Bool.not_eq_true', Bool.not_eq_false', Bool.not_eq_true, Bool.not_eq_false, Int.not_lt, Int.not_le, Nat.not_lt, Nat.not_le, Bool.not_true, Bool.not_false, Bool.true_eq_false, Bool.false_eq_true] at hc28
          refine vc_seq ?_
          refine vc_region ?_
          refine vc_y rfl rfl (y_mv rfl) ?_
          refine vc_y rfl rfl (y_add rfl rfl rfl (by omega) (by omega)) ?_
          refine vc_y rfl rfl (y_as rfl) ?_
          refine vc_end ?_
          refine vq_then ?_
          refine vc_keep [(0, _), (1, _), (7, _), (9, _)] ⟨rfl, rfl, rfl, rfl, trivial⟩ ?_
          refine vc_region ?_
          refine vc_y rfl rfl (y_as rfl) ?_
          refine vc_end ?_
          refine vq_block ?_
          refine vq_then ?_
          refine vc_keep [(0, _), (1, _), (7, _), (8, _), (9, _)] ⟨rfl, rfl, rfl, rfl, rfl, trivial⟩ ?_
          refine vc_region ?_
          refine vc_y rfl rfl (y_mv rfl) ?_
          refine vc_y rfl rfl (y_add rfl rfl rfl (by omega) (by omega)) ?_
          refine vc_y rfl rfl (y_as rfl) ?_
          refine vc_end ?_
          have e : place s (j + 1) = ((place s j).1 + 1, 1) := by simp only [place]; rw [if_pos (UInt8.toNat_inj.1 (by simp only [UInt8.reduceToNat]; omega))]
          exact vq_again (j + 1) ⟨rfl, rfl, by rw [e]; rfl, by rw [e]; rfl, rfl, trivial⟩ st (by omega) (by omega)
        · intro hc28
          try simp only [decide_eq_true_eq, decide_eq_false_iff_not, Bool.not_eq_true', Bool.not_eq_false', Bool.not_eq_true, Bool.not_eq_false, Int.not_lt, Int.not_le, Nat.not_lt, Nat.not_le, Bool.not_true, Bool.not_false, Bool.true_eq_false, Bool.false_eq_true] at hc28
          refine vc_code_skip ?_
          refine vq_block ?_
          refine vq_then ?_
          refine vc_keep [(0, _), (1, _), (7, _), (8, _), (9, _)] ⟨rfl, rfl, rfl, rfl, rfl, trivial⟩ ?_
          refine vc_region ?_
          refine vc_y rfl rfl (y_mv rfl) ?_
          refine vc_y rfl rfl (y_add rfl rfl rfl (by omega) (by omega)) ?_
          refine vc_y rfl rfl (y_as rfl) ?_
          refine vc_end ?_
          have e : place s (j + 1) = ((place s j).1, (place s j).2 + 1) := by simp only [place]; rw [if_neg]; intro h; rw [h] at hc28; exact hc28 rfl
          exact vq_again (j + 1) ⟨rfl, rfl, by rw [e]; rfl, by rw [e]; rfl, rfl, trivial⟩ st (by omega) (by omega)
      · intro hc20
        try simp only [decide_eq_true_eq, decide_eq_false_iff_not, Bool.not_eq_true', Bool.not_eq_false', Bool.not_eq_true, Bool.not_eq_false, Int.not_lt, Int.not_le, Nat.not_lt, Nat.not_le, Bool.not_true, Bool.not_false, Bool.true_eq_false, Bool.false_eq_true] at hc20
        refine vc_exit ?_
        refine vq_then_exit ?_
        refine vq_then_exit ?_
        refine vq_block_exit ?_
        refine vq_then ?_
        refine vc_keep [(7, _), (8, _)] ⟨rfl, rfl, trivial⟩ ?_
        refine vc_seq ?_
        refine vc_region ?_
        refine vc_y rfl rfl (y_mv rfl) ?_
        refine vc_y rfl rfl (y_mv rfl) ?_
        refine vc_y rfl rfl (y_as rfl) ?_
        refine vc_y rfl rfl (y_as rfl) ?_
        refine vc_y rfl rfl (y_as rfl) ?_
        refine vc_end ?_
        refine vq_then ?_
        refine vc_keep [(4, _), (5, _), (6, _)] ⟨rfl, rfl, rfl, trivial⟩ ?_
        refine vc_ret ?_
        refine vq_ret3 st (.inl rfl) Try.results27 (.tmp rfl) (.tmp rfl) (.tmp rfl) ?_
        refine ⟨_, rfl, ?_⟩
        refine ⟨?_, st.chg⟩
        unfold PlacePost
        obtain rfl : j = n := by omega
        rw [if_neg (by omega), Int.toNat_natCast]

end Go.Proofs.Ytakepmhgmgpkkaa
