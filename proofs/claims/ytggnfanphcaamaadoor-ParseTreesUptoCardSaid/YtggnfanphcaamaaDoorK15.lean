/- A part of the proof: contracts of functions and plain laws; each theorem says its own conditions. -/
import Derived.Test.YtggnfanphcaamaaDoorK14
import Derived.Test.YtggnfanphcaamaaDoorK1
import Derived.Test.YtggnfanphcaamaaDoorK13
namespace Go.Proofs.YtggnfanphcaamaaDoor
open Go.RowKit Sx LexS ParS
set_option linter.unusedVariables false
set_option linter.unusedSimpArgs false
section
variable {S : Nat → Prop}

set_option maxHeartbeats 2000000 in
theorem psize_any (p : Pg) (hok : OkP p) (hsz : szTs p.threads ≤ 1048576) (os ol ot : Option Addr) (cs cl ct : Nat) (w : World) (hA : ThRow w S ot p.threads) (hS : ∀ b, S b → b < w.heap.size) :
    Ret Tryd.prog 21 [.agg (pgC p os ol ot cs cl ct).toArray] w fun v w' => v = .tuple #[.int .i64 (stP p : Int), .int .i64 (exP p : Int)] ∧ Chg [] w w' := by
  refine ret_of [_] Tryd.func21 rfl Tryd.ntmps21 rfl ?_
  have st := St.init w []
  obtain ⟨w0, rfl⟩ : ∃ w0, w0 = w := ⟨_, rfl⟩
  have hn3 := hok.2.2.1
  refine vc_seq ?_
  refine vc_region ?_
  refine vc_e (e_bx (l := [_, _, _]) st rfl rfl rfl rfl ?_)
  intro b1 w hb1 st
  refine vc_y rfl rfl (y_as rfl) ?_
  refine vc_y rfl rfl (y_as rfl) ?_
  refine vc_end ?_
  refine vq_then ?_
  refine vc_keep [(1, _)] ⟨rfl, trivial⟩ ?_
  refine vc_seq ?_
  refine vc_region ?_
  refine vc_e (e_al (l := [_]) st rfl rfl Tryd.zeroValue3 rfl ?_)
  intro b4 w hb4 st
  refine vc_e (e_al (l := [_]) st rfl rfl Tryd.zeroValue3 rfl ?_)
  intro b5 w hb5 st
  first
  | refine vc_e (e_st st 0 rfl rfl rfl rfl Tryd.sizeOf3 rfl rfl (by first | (right; assumption) | (left; simp)) ?_)
  | refine vc_e (e_st st 1 rfl rfl rfl rfl Tryd.sizeOf3 rfl rfl (by first | (right; assumption) | (left; simp)) ?_)
  | refine vc_e (e_st st 2 rfl rfl rfl rfl Tryd.sizeOf3 rfl rfl (by first | (right; assumption) | (left; simp)) ?_)
  | refine vc_e (e_st st 3 rfl rfl rfl rfl Tryd.sizeOf3 rfl rfl (by first | (right; assumption) | (left; simp)) ?_)
  | refine vc_e (e_st st 4 rfl rfl rfl rfl Tryd.sizeOf3 rfl rfl (by first | (right; assumption) | (left; simp)) ?_)
  | refine vc_e (e_st st 5 rfl rfl rfl rfl Tryd.sizeOf3 rfl rfl (by first | (right; assumption) | (left; simp)) ?_)
  intro w st; dsimp only [setNth, wr] at st
  first
  | refine vc_e (e_st st 0 rfl rfl rfl rfl Tryd.sizeOf3 rfl rfl (by first | (right; assumption) | (left; simp)) ?_)
  | refine vc_e (e_st st 1 rfl rfl rfl rfl Tryd.sizeOf3 rfl rfl (by first | (right; assumption) | (left; simp)) ?_)
  | refine vc_e (e_st st 2 rfl rfl rfl rfl Tryd.sizeOf3 rfl rfl (by first | (right; assumption) | (left; simp)) ?_)
  | refine vc_e (e_st st 3 rfl rfl rfl rfl Tryd.sizeOf3 rfl rfl (by first | (right; assumption) | (left; simp)) ?_)
  | refine vc_e (e_st st 4 rfl rfl rfl rfl Tryd.sizeOf3 rfl rfl (by first | (right; assumption) | (left; simp)) ?_)
  | refine vc_e (e_st st 5 rfl rfl rfl rfl Tryd.sizeOf3 rfl rfl (by first | (right; assumption) | (left; simp)) ?_)
  intro w st; dsimp only [setNth, wr] at st
  refine vc_end ?_
  refine vq_then ?_
  refine vc_keep [(1, _), (4, _), (5, _)] ⟨rfl, rfl, rfl, trivial⟩ ?_
  refine vc_seq ?_
  refine vc_region ?_
  refine vc_e (e_al (l := [_]) st rfl rfl Tryd.zeroValue100 rfl ?_)
  intro b6 w hb6 st
  refine vc_end ?_
  refine vq_then ?_
  refine vc_keep [(1, _), (4, _), (5, _), (6, _)] ⟨rfl, rfl, rfl, rfl, trivial⟩ ?_
  refine vc_seq ?_
  refine vc_region ?_
  refine vc_y rfl rfl (y_mf [] [_, _] rfl rfl) ?_
  first
  | refine vc_e (e_st st 0 rfl rfl rfl rfl Tryd.sizeOf100 rfl rfl (by first | (right; assumption) | (left; simp)) ?_)
  | refine vc_e (e_st st 1 rfl rfl rfl rfl Tryd.sizeOf100 rfl rfl (by first | (right; assumption) | (left; simp)) ?_)
  | refine vc_e (e_st st 2 rfl rfl rfl rfl Tryd.sizeOf100 rfl rfl (by first | (right; assumption) | (left; simp)) ?_)
  | refine vc_e (e_st st 3 rfl rfl rfl rfl Tryd.sizeOf100 rfl rfl (by first | (right; assumption) | (left; simp)) ?_)
  | refine vc_e (e_st st 4 rfl rfl rfl rfl Tryd.sizeOf100 rfl rfl (by first | (right; assumption) | (left; simp)) ?_)
  | refine vc_e (e_st st 5 rfl rfl rfl rfl Tryd.sizeOf100 rfl rfl (by first | (right; assumption) | (left; simp)) ?_)
  intro w st; dsimp only [setNth, wr] at st
  refine vc_end ?_
  refine vq_then ?_
  refine vc_keep [(1, _), (4, _), (5, _), (6, _)] ⟨rfl, rfl, rfl, rfl, trivial⟩ ?_
  refine vc_seq ?_
  refine vc_region ?_
  refine vc_e (e_al (l := [_]) st rfl rfl Tryd.zeroValue101 rfl ?_)
  intro b7 w hb7 st
  refine vc_end ?_
  refine vq_then ?_
  refine vc_keep [(1, _), (4, _), (5, _), (6, _), (7, _)] ⟨rfl, rfl, rfl, rfl, rfl, trivial⟩ ?_
  refine vc_seq ?_
  refine vc_region ?_
  refine vc_y rfl rfl (y_mf [] [_, _, _] rfl rfl) ?_
  first
  | refine vc_e (e_st st 0 rfl rfl rfl rfl Tryd.sizeOf101 rfl rfl (by first | (right; assumption) | (left; simp)) ?_)
  | refine vc_e (e_st st 1 rfl rfl rfl rfl Tryd.sizeOf101 rfl rfl (by first | (right; assumption) | (left; simp)) ?_)
  | refine vc_e (e_st st 2 rfl rfl rfl rfl Tryd.sizeOf101 rfl rfl (by first | (right; assumption) | (left; simp)) ?_)
  | refine vc_e (e_st st 3 rfl rfl rfl rfl Tryd.sizeOf101 rfl rfl (by first | (right; assumption) | (left; simp)) ?_)
  | refine vc_e (e_st st 4 rfl rfl rfl rfl Tryd.sizeOf101 rfl rfl (by first | (right; assumption) | (left; simp)) ?_)
  | refine vc_e (e_st st 5 rfl rfl rfl rfl Tryd.sizeOf101 rfl rfl (by first | (right; assumption) | (left; simp)) ?_)
  intro w st; dsimp only [setNth, wr] at st
  refine vc_end ?_
  refine vq_then ?_
  refine vc_keep [(1, _), (4, _), (5, _), (7, _)] ⟨rfl, rfl, rfl, rfl, trivial⟩ ?_
  refine vc_seq ?_
  refine vc_seq ?_
  refine vc_region ?_
  refine vc_y rfl rfl ((by first | exact y_faz (k := 2) rfl Tryd.underlying44 rfl rfl Tryd.sizeOf42 rfl | exact y_fa (k := 2) rfl Tryd.underlying44 rfl rfl Tryd.sizeOf42 rfl)) ?_
  refine vc_y rfl rfl ((by first | exact y_ld st 0 rfl Tryd.isAgg42 rfl rfl | exact y_ld st 1 rfl Tryd.isAgg42 rfl rfl | exact y_ld st 2 rfl Tryd.isAgg42 rfl rfl | exact y_ld st 3 rfl Tryd.isAgg42 rfl rfl | exact y_ld st 4 rfl Tryd.isAgg42 rfl rfl | exact y_ld st 5 rfl Tryd.isAgg42 rfl rfl)) ?_
  refine vc_y rfl rfl (y_lensl rfl Tryd.underlying42) ?_
  refine vc_y rfl rfl (y_mv rfl) ?_
  refine vc_end ?_
  refine vq_then ?_
  refine vc_keep [(4, _), (5, _), (7, _), (13, _), (14, _), (15, _)] ⟨rfl, rfl, rfl, rfl, rfl, rfl, trivial⟩ ?_
  refine vc_block ?_
  refine vc_loop (w0 := w0) (M := []) (fun (j : Nat) => [(4, .pointer (some ⟨b4, 0, none⟩)), (5, .pointer (some ⟨b5, 0, none⟩)), (7, .pointer (some ⟨b7, 0, none⟩)), (13, .slice ot p.threads.length ct), (14, .int .i64 (p.threads.length : Int)), (15, .int .i64 (j : Int))]) (fun j => [.blk b4 (cI (sm (fun t : Th => stSs t.body) (p.threads.take j))), .blk b5 (cI (sm (fun t : Th => exSs t.body) (p.threads.take j))), .blk b6 (cE b5 b6), .blk b7 (cS b4 b6 b7)]) (fun j _ => j ≤ p.threads.length) (fun j => p.threads.length - j) 0 ⟨rfl, rfl, rfl, rfl, rfl, rfl, trivial⟩ (st.pick [3, 2, 1, 0] rfl (by decide)) (by omega) ?_
  clear st
  rintro j w hj st
  refine vc_seq ?_
  refine vc_region ?_
  refine vc_y rfl rfl (y_lss rfl rfl) ?_
  refine vc_end ?_
  refine vq_then ?_
  refine vc_keep [(4, _), (5, _), (7, _), (13, _), (14, _), (15, _), (16, _)] ⟨rfl, rfl, rfl, rfl, rfl, rfl, rfl, trivial⟩ ?_
  refine vc_seq ?_
  refine vc_ifs rfl ?_ ?_
  · intro hc16
    try simp only [decide_eq_true_eq, decide_eq_false_iff_not, Bool.not_eq_true', Bool.not_eq_false', Bool.not_eq_true, Bool.not_eq_false, Int.not_lt, Int.not_le, Nat.not_lt, Nat.not_le, Bool.not_true, Bool.not_false, Bool.true_eq_false, Bool.false_eq_true] at hc16
    have n45 := st.bne 0 1 (by decide) rfl rfl
    have n46 := st.bne 0 2 (by decide) rfl rfl
    have n47 := st.bne 0 3 (by decide) rfl rfl
    have n56 := st.bne 1 2 (by decide) rfl rfl
    have n57 := st.bne 1 3 (by decide) rfl rfl
    have n67 := st.bne 2 3 (by decide) rfl rfl
    obtain ⟨x, hx⟩ : ∃ x, p.threads[j]? = some x := ⟨_, List.getElem?_eq_getElem (by omega)⟩
    have hkx := hok.2.2.2 j x hx
    have stK := st
    obtain ⟨gb, go, rfl, hg⟩ := ThRow.gets hA (by omega)
    have st := stK
    clear stK
    obtain ⟨tl, tb, cll, cbb, hc, htl, htb⟩ := hg j x hx
    have t1 := sumT (f := fun t : Th => stSs t.body) hx
    have t2 := smT_le (fun t : Th => stSs t.body) p.threads (j + 1)
    have t3 := stP_le p.threads
    have u1 := sumT (f := fun t : Th => exSs t.body) hx
    have u2 := smT_le (fun t : Th => exSs t.body) p.threads (j + 1)
    have u3 := exP_le p.threads
    refine vc_code_skip ?_
    refine vq_then ?_
    refine vc_keep [(4, _), (5, _), (7, _), (13, _), (14, _), (15, _)] ⟨rfl, rfl, rfl, rfl, rfl, rfl, trivial⟩ ?_
    refine vc_seq ?_
    refine vc_block ?_
    refine vc_seq ?_
    refine vc_region ?_
    refine vc_y rfl rfl ((by first | exact y_ia0 (k := j) rfl rfl Tryd.underlying42 Tryd.sizeOf78 rfl (by omega) | exact y_ia (k := j) rfl rfl Tryd.underlying42 Tryd.sizeOf78 rfl (by omega))) ?_
    refine vc_y rfl rfl ((by first | exact y_ldca (thC x tl tb cll cbb) rfl Tryd.isAgg78 Tryd.sizeOf78 rfl (fun i v hi => st.chg.cell (hc i v hi) (by simp)) | exact y_lda (vs := [_, _, _, _]) st 0 rfl Tryd.isAgg78 Tryd.sizeOf78 rfl rfl | exact y_lda (vs := [_, _, _, _]) st 1 rfl Tryd.isAgg78 Tryd.sizeOf78 rfl rfl | exact y_lda (vs := [_, _, _, _]) st 2 rfl Tryd.isAgg78 Tryd.sizeOf78 rfl rfl | exact y_lda (vs := [_, _, _, _]) st 3 rfl Tryd.isAgg78 Tryd.sizeOf78 rfl rfl | exact y_lda (vs := [_, _, _, _]) st 4 rfl Tryd.isAgg78 Tryd.sizeOf78 rfl rfl | exact y_lda (vs := [_, _, _, _]) st 5 rfl Tryd.isAgg78 Tryd.sizeOf78 rfl rfl)) ?_
    refine vc_e (e_al (l := [_, _, _, _]) st rfl rfl Tryd.zeroValue78 rfl ?_)
    intro b9 w hb9 st
    first
    | refine vc_e (e_sts (vs := [_, _, _, _]) st 0 rfl rfl rfl rfl rfl Tryd.sizeOf78 rfl rfl (by first | (right; assumption) | (left; simp)) ?_)
    | refine vc_e (e_sts (vs := [_, _, _, _]) st 1 rfl rfl rfl rfl rfl Tryd.sizeOf78 rfl rfl (by first | (right; assumption) | (left; simp)) ?_)
    | refine vc_e (e_sts (vs := [_, _, _, _]) st 2 rfl rfl rfl rfl rfl Tryd.sizeOf78 rfl rfl (by first | (right; assumption) | (left; simp)) ?_)
    | refine vc_e (e_sts (vs := [_, _, _, _]) st 3 rfl rfl rfl rfl rfl Tryd.sizeOf78 rfl rfl (by first | (right; assumption) | (left; simp)) ?_)
    | refine vc_e (e_sts (vs := [_, _, _, _]) st 4 rfl rfl rfl rfl rfl Tryd.sizeOf78 rfl rfl (by first | (right; assumption) | (left; simp)) ?_)
    | refine vc_e (e_sts (vs := [_, _, _, _]) st 5 rfl rfl rfl rfl rfl Tryd.sizeOf78 rfl rfl (by first | (right; assumption) | (left; simp)) ?_)
    intro w st; dsimp only [setNth, wr] at st
    refine vc_end ?_
    refine vq_then ?_
    refine vc_keep [(4, _), (5, _), (7, _), (9, _), (13, _), (14, _), (15, _)] ⟨rfl, rfl, rfl, rfl, rfl, rfl, rfl, trivial⟩ ?_
    refine vc_region ?_
    refine vc_y rfl rfl ((by first | exact y_ld st 0 rfl Tryd.isAgg101 rfl rfl | exact y_ld st 1 rfl Tryd.isAgg101 rfl rfl | exact y_ld st 2 rfl Tryd.isAgg101 rfl rfl | exact y_ld st 3 rfl Tryd.isAgg101 rfl rfl | exact y_ld st 4 rfl Tryd.isAgg101 rfl rfl | exact y_ld st 5 rfl Tryd.isAgg101 rfl rfl)) ?_
    refine vc_y rfl rfl ((by first | exact y_faz (k := 2) rfl Tryd.underlying78 rfl rfl Tryd.sizeOf76 rfl | exact y_fa (k := 2) rfl Tryd.underlying78 rfl rfl Tryd.sizeOf76 rfl)) ?_
    refine vc_y rfl rfl ((by first | exact y_ld st 0 rfl Tryd.isAgg76 rfl rfl | exact y_ld st 1 rfl Tryd.isAgg76 rfl rfl | exact y_ld st 2 rfl Tryd.isAgg76 rfl rfl | exact y_ld st 3 rfl Tryd.isAgg76 rfl rfl | exact y_ld st 4 rfl Tryd.isAgg76 rfl rfl | exact y_ld st 5 rfl Tryd.isAgg76 rfl rfl)) ?_
    refine vc_e (e_callv [_] rfl rfl rfl Tryd.call49 rfl (goes_any _ x.body rfl hkx.2.1 (sm (fun t : Th => stSs t.body) (p.threads.take j)) (sm (fun t : Th => exSs t.body) (p.threads.take j)) (by omega) (by omega) _ _ _ _ _ _ _ (htb.kept (Same.of_nil st.chg)) (fun b hb e => by have := hS b hb; omega) (fun b hb e => by have := hS b hb; omega) (st.res (i := 1) rfl) (st.res (i := 2) rfl) (st.res (i := 3) rfl) (st.res (i := 4) rfl) n45 n46 n47 n56 n57 n67) ?_)
    rintro _ w ⟨h4, h5, cw⟩
    rw [← t1] at h4
    rw [← u1] at h5
    replace st := (St.prs2 (q := .tree [] (fun _ => True)) (st.pick [1, 2, 0, 3, 4] rfl (by decide)) cw (.inr hb4) (.inr hb5) h4 h5 ⟨trivial, by simp, fun _ _ _ _ _ => trivial⟩ (by simp [Res.at?])).pick [3, 1, 2, 4, 5] rfl (by decide)
    refine vc_end ?_
    refine vq_block ?_
    refine vq_then ?_
    refine vc_keep [(4, _), (5, _), (7, _), (13, _), (14, _), (15, _)] ⟨rfl, rfl, rfl, rfl, rfl, rfl, trivial⟩ ?_
    refine vc_region ?_
    refine vc_y rfl rfl (y_add rfl rfl (by omega : _ = ((j + 1 : Nat) : Int)) (by omega) (by omega)) ?_
    refine vc_y rfl rfl (y_mv rfl) ?_
    refine vc_end ?_
    refine vq_again (j + 1)  ⟨rfl, rfl, rfl, rfl, rfl, rfl, trivial⟩ (st.drop (by repeat (first | exact List.Sublist.slnil | apply List.Sublist.cons_cons | apply List.Sublist.cons))) ?_ ?_
    · (show j + 1 ≤ p.threads.length; omega)
    · omega
  · intro hc16
    try simp only [decide_eq_true_eq, decide_eq_false_iff_not, Bool.not_eq_true', Bool.not_eq_false', Bool.not_eq_true, Bool.not_eq_false, Int.not_lt, Int.not_le, Nat.not_lt, Nat.not_le, Bool.not_true, Bool.not_false, Bool.true_eq_false, Bool.false_eq_true] at hc16
    refine vc_exit ?_
    refine vq_then_exit ?_
    refine vq_then_exit ?_
    refine vq_block_exit ?_
    refine vq_then ?_
    refine vc_keep [(4, _), (5, _)] ⟨rfl, rfl, trivial⟩ ?_
    refine vc_seq ?_
    refine vc_draw Tryd.mixed [(0, true), (1, true), (2, true), (3, true)] (fun w => St _ _ _ w) st (by kernel_rfl) (by repeat (first | exact okQ_noPan | exact okQ_body | exact okQ_bodyS | refine okQ_then ?_ | refine okQ_block ?_)) rfl (by kernel_rfl) ?_
    intro w cd; replace st := st.call0 cd; clear cd
    have hS := st
    refine vp_take rfl rfl rfl hS (fun w st => (by first | exact y_ld st 0 rfl Tryd.isAgg3 rfl rfl | exact y_ld st 1 rfl Tryd.isAgg3 rfl rfl | exact y_ld st 2 rfl Tryd.isAgg3 rfl rfl | exact y_ld st 3 rfl Tryd.isAgg3 rfl rfl | exact y_ld st 4 rfl Tryd.isAgg3 rfl rfl | exact y_ld st 5 rfl Tryd.isAgg3 rfl rfl)) ?_
    refine vp_take rfl rfl rfl hS (fun w st => (by first | exact y_ld st 0 rfl Tryd.isAgg3 rfl rfl | exact y_ld st 1 rfl Tryd.isAgg3 rfl rfl | exact y_ld st 2 rfl Tryd.isAgg3 rfl rfl | exact y_ld st 3 rfl Tryd.isAgg3 rfl rfl | exact y_ld st 4 rfl Tryd.isAgg3 rfl rfl | exact y_ld st 5 rfl Tryd.isAgg3 rfl rfl)) ?_
    refine vp_take rfl rfl rfl hS (fun w st => y_as rfl) ?_
    refine vp_take rfl rfl rfl hS (fun w st => y_as rfl) ?_
    refine vp_end ?_
    refine vq_then ?_
    refine vc_keep [(2, _), (3, _)] ⟨rfl, rfl, trivial⟩ ?_
    refine vc_ret ?_
    refine vq_ret2 st (.inl rfl) Tryd.results21 (.tmp rfl) (.tmp rfl) ?_
    refine ⟨_, rfl, ?_⟩
    refine ⟨?_, st.chg⟩
    rw [List.take_of_length_le (by omega)]
    rfl

end
end Go.Proofs.YtggnfanphcaamaaDoor


/- When trees are the same: no program in sight. -/
namespace LexS
open Sx
set_option linter.unusedVariables false
set_option linter.unusedSimpArgs false
def zipA {α β : Type} (f : α → β → Bool) : List α → List β → Bool
  | [], [] => true
  | x :: r, y :: s => f x y && zipA f r s
  | _, _ => false
theorem zipA_len {α β : Type} {f : α → β → Bool} : ∀ {a : List α} {b : List β}, a.length ≠ b.length → zipA f a b = false
  | [], [], h => absurd rfl h
  | x :: r, y :: s, h => by simp only [zipA, zipA_len (f := f) (a := r) (b := s) (by simpa using h), Bool.and_false]
  | [], _ :: _, _ => rfl
  | _ :: _, [], _ => rfl
theorem zipA_no {α β : Type} {f : α → β → Bool} : ∀ {a : List α} {b : List β} {j : Nat} {x : α} {y : β}, a[j]? = some x → b[j]? = some y → f x y = false → zipA f a b = false
  | [], _, j, x, y, h, _, _ => by simp at h
  | _ :: _, [], j, x, y, _, h, _ => by simp at h
  | u :: r, v :: s, 0, x, y, h1, h2, h => by simp at h1 h2; subst h1 h2; simp [zipA, h]
  | u :: r, v :: s, j + 1, x, y, h1, h2, h => by simp only [zipA, zipA_no (f := f) (a := r) (b := s) (by simpa using h1) (by simpa using h2) h, Bool.and_false]
theorem zipA_yes {α β : Type} {f : α → β → Bool} : ∀ {a : List α} {b : List β}, a.length = b.length → (∀ (j : Nat) x y, j < a.length → a[j]? = some x → b[j]? = some y → f x y = true) → zipA f a b = true
  | [], [], _, _ => rfl
  | u :: r, v :: s, hl, h => by
    simp only [zipA, Bool.and_eq_true]
    exact ⟨h 0 u v (by simp) rfl rfl, zipA_yes (by simpa using hl) fun j x y hj h1 h2 => h (j + 1) x y (by simp; omega) (by simpa using h1) (by simpa using h2)⟩
  | [], _ :: _, hl, _ => by simp at hl
  | _ :: _, [], hl, _ => by simp at hl
theorem zipA_refl {α : Type} {f : α → α → Bool} {a : List α} (h : ∀ x ∈ a, f x x = true) : zipA f a a = true :=
  zipA_yes rfl fun j x y hj h1 h2 => by rw [h1] at h2; cases h2; exact h x (List.mem_of_getElem? h1)
mutual
def sameE : Ex → Ex → Bool
  | .mk k op wd nm kids a, y => decide (k = y.k ∧ op = y.op ∧ wd = y.wd ∧ nm = y.nm) && sameEs kids y.kids
termination_by structural e => e
def sameEs : List Ex → List Ex → Bool
  | [], l => l.isEmpty
  | x :: r, l => match l with | [] => false | y :: s => sameE x y && sameEs r s
termination_by structural l => l
end
mutual
def plE : Ex → Ex → Bool
  | .mk k op wd nm kids a, y => decide (a = y.a) && plEs kids y.kids
termination_by structural e => e
def plEs : List Ex → List Ex → Bool
  | [], l => l.isEmpty
  | x :: r, l => match l with | [] => false | y :: s => plE x y && plEs r s
termination_by structural l => l
end
theorem sameEs_eq : ∀ (a b : List Ex), sameEs a b = zipA sameE a b
  | [], [] => rfl
  | [], _ :: _ => rfl
  | _ :: _, [] => by simp [sameEs, zipA]
  | x :: r, y :: s => by simp only [sameEs, zipA, sameEs_eq r s]
theorem plEs_eq : ∀ (a b : List Ex), plEs a b = zipA plE a b
  | [], [] => rfl
  | [], _ :: _ => rfl
  | _ :: _, [] => by simp [plEs, zipA]
  | x :: r, y :: s => by simp only [plEs, zipA, plEs_eq r s]
theorem sameE_eq (e y : Ex) : sameE e y = (decide (e.k = y.k ∧ e.op = y.op ∧ e.wd = y.wd ∧ e.nm = y.nm) && zipA sameE e.kids y.kids) := by
  cases e; rw [sameE, sameEs_eq]; rfl
theorem plE_eq (e y : Ex) : plE e y = (decide (e.a = y.a) && zipA plE e.kids y.kids) := by
  cases e; rw [plE, plEs_eq]; rfl
mutual
def sameS : Sm → Sm → Bool
  | .mk k nm other e body els a, y => decide (k = y.k ∧ nm = y.nm ∧ other = y.other) && zipA sameE e y.e && sameSs body y.body && sameSs els y.els
termination_by structural e => e
def sameSs : List Sm → List Sm → Bool
  | [], l => l.isEmpty
  | x :: r, l => match l with | [] => false | y :: s => sameS x y && sameSs r s
termination_by structural l => l
end
mutual
def plS : Sm → Sm → Bool
  | .mk k nm other e body els a, y => decide (a = y.a) && zipA plE e y.e && plSs body y.body && plSs els y.els
termination_by structural e => e
def plSs : List Sm → List Sm → Bool
  | [], l => l.isEmpty
  | x :: r, l => match l with | [] => false | y :: s => plS x y && plSs r s
termination_by structural l => l
end
theorem sameSs_eq : ∀ (a b : List Sm), sameSs a b = zipA sameS a b
  | [], [] => rfl
  | [], _ :: _ => rfl
  | _ :: _, [] => by simp [sameSs, zipA]
  | x :: r, y :: s => by simp only [sameSs, zipA, sameSs_eq r s]
theorem plSs_eq : ∀ (a b : List Sm), plSs a b = zipA plS a b
  | [], [] => rfl
  | [], _ :: _ => rfl
  | _ :: _, [] => by simp [plSs, zipA]
  | x :: r, y :: s => by simp only [plSs, zipA, plSs_eq r s]
theorem sameS_eq (s y : Sm) : sameS s y = (decide (s.k = y.k ∧ s.nm = y.nm ∧ s.other = y.other) && zipA sameE s.e y.e && zipA sameS s.body y.body && zipA sameS s.els y.els) := by
  cases s; rw [sameS, sameSs_eq, sameSs_eq]; rfl
theorem plS_eq (s y : Sm) : plS s y = (decide (s.a = y.a) && zipA plE s.e y.e && zipA plS s.body y.body && zipA plS s.els y.els) := by
  cases s; rw [plS, plSs_eq, plSs_eq]; rfl
def sameD (d y : Dc) : Bool := decide (d.nm = y.nm ∧ d.wd = y.wd)
def eqD (d y : Dc) : Bool := decide (d.nm = y.nm ∧ d.wd = y.wd ∧ d.a = y.a)
def sameT (t y : Th) : Bool := decide (t.nm = y.nm) && zipA sameD t.locals y.locals && zipA sameS t.body y.body
def exT (t y : Th) : Bool := decide (t.a = y.a) && zipA eqD t.locals y.locals && zipA plS t.body y.body
def sameP (p q : Pg) : Bool := zipA sameD p.shared q.shared && zipA sameD p.locks q.locks && zipA sameT p.threads q.threads
def exactP (p q : Pg) : Bool := sameP p q && zipA eqD p.shared q.shared && zipA eqD p.locks q.locks && zipA exT p.threads q.threads
theorem memE_lt {e x : Ex} (h : x ∈ e.kids) : SizeOf.sizeOf x < SizeOf.sizeOf e := by
  cases e with
  | mk k op wd nm kids a =>
    have := List.sizeOf_lt_of_mem h
    simp only [Ex.kids] at this
    simp only [Ex.mk.sizeOf_spec]; omega
theorem memS_lt {s x : Sm} (h : x ∈ s.body ∨ x ∈ s.els) : SizeOf.sizeOf x < SizeOf.sizeOf s := by
  cases s with
  | mk k nm other e body els a =>
    simp only [Sm.body, Sm.els] at h
    simp only [Sm.mk.sizeOf_spec]
    rcases h with h | h <;> (have := List.sizeOf_lt_of_mem h; omega)
theorem sameE_refl : ∀ (n : Nat) (e : Ex), SizeOf.sizeOf e = n → sameE e e = true := by
  intro n
  refine Nat.strongRecOn n fun n ih e hn => ?_
  subst hn
  rw [sameE_eq]
  simp only [and_self, decide_true, Bool.true_and]
  exact zipA_refl fun x hx => ih _ (memE_lt hx) x rfl
theorem plE_refl : ∀ (n : Nat) (e : Ex), SizeOf.sizeOf e = n → plE e e = true := by
  intro n
  refine Nat.strongRecOn n fun n ih e hn => ?_
  subst hn
  rw [plE_eq]
  simp only [decide_true, Bool.true_and]
  exact zipA_refl fun x hx => ih _ (memE_lt hx) x rfl
theorem sameS_refl : ∀ (n : Nat) (s : Sm), SizeOf.sizeOf s = n → sameS s s = true := by
  intro n
  refine Nat.strongRecOn n fun n ih s hn => ?_
  subst hn
  rw [sameS_eq]
  simp only [and_self, decide_true, Bool.true_and, Bool.and_eq_true]
  exact ⟨⟨zipA_refl fun x hx => sameE_refl _ x rfl, zipA_refl fun x hx => ih _ (memS_lt (.inl hx)) x rfl⟩, zipA_refl fun x hx => ih _ (memS_lt (.inr hx)) x rfl⟩
theorem plS_refl : ∀ (n : Nat) (s : Sm), SizeOf.sizeOf s = n → plS s s = true := by
  intro n
  refine Nat.strongRecOn n fun n ih s hn => ?_
  subst hn
  rw [plS_eq]
  simp only [decide_true, Bool.true_and, Bool.and_eq_true]
  exact ⟨⟨zipA_refl fun x hx => plE_refl _ x rfl, zipA_refl fun x hx => ih _ (memS_lt (.inl hx)) x rfl⟩, zipA_refl fun x hx => ih _ (memS_lt (.inr hx)) x rfl⟩
theorem sameP_refl (p : Pg) : sameP p p = true := by
  unfold sameP
  simp only [Bool.and_eq_true]
  refine ⟨⟨zipA_refl fun x _ => by simp [sameD], zipA_refl fun x _ => by simp [sameD]⟩, zipA_refl fun t _ => ?_⟩
  unfold sameT
  simp only [decide_true, Bool.true_and, Bool.and_eq_true]
  exact ⟨zipA_refl fun x _ => by simp [sameD], zipA_refl fun x _ => sameS_refl _ x rfl⟩
theorem exactP_refl (p : Pg) : exactP p p = true := by
  unfold exactP
  simp only [sameP_refl, Bool.true_and, Bool.and_eq_true]
  refine ⟨⟨zipA_refl fun x _ => by simp [eqD], zipA_refl fun x _ => by simp [eqD]⟩, zipA_refl fun t _ => ?_⟩
  unfold exT
  simp only [decide_true, Bool.true_and, Bool.and_eq_true]
  exact ⟨zipA_refl fun x _ => by simp [eqD], zipA_refl fun x _ => plS_refl _ x rfl⟩
end LexS


namespace Go.Proofs.YtggnfanphcaamaaDoor
open Go.RowKit Sx LexS ParS
set_option linter.unusedVariables false
set_option linter.unusedSimpArgs false
section
variable {S : Nat → Prop}

theorem psameD_any (x y : Dc) (w : World) : Ret Tryd.prog 41 [.agg (dcL x).toArray, .agg (dcL y).toArray] w fun v w' => v = .bool (sameD x y) ∧ Chg [] w w' := by
 refine ret_of [_, _] Tryd.func41 rfl Tryd.ntmps41 rfl ?_
 have st := St.init w []
 obtain ⟨w0, rfl⟩ : ∃ w0, w0 = w := ⟨_, rfl⟩
 refine vc_seq (vc_region ?_)
 refine vc_e (e_bx (l := [_, _, _]) st rfl rfl rfl rfl ?_)
 intro b2 w hb2 st
 refine vc_e (e_bx (l := [_, _, _]) st rfl rfl rfl rfl ?_)
 intro b3 w hb3 st
 refine vc_y rfl rfl (y_as rfl) ?_
 refine vc_end (vq_then (vc_keep [(2, _), (3, _)] ⟨rfl, rfl, trivial⟩ (vc_seq (vc_region ?_))))
 refine vc_y rfl rfl (y_fa0 rfl Tryd.underlying80 rfl rfl Tryd.sizeOf9 rfl) ?_
 refine vc_y rfl rfl ((by exact y_ld st 1 rfl Tryd.isAgg9 rfl rfl)) ?_
 refine vc_y rfl rfl (y_fa0 rfl Tryd.underlying80 rfl rfl Tryd.sizeOf9 rfl) ?_
 refine vc_y rfl rfl ((by exact y_ld st 0 rfl Tryd.isAgg9 rfl rfl)) ?_
 refine vc_y rfl rfl (y_eqs rfl rfl) ?_
 refine vc_e (e_mvb rfl rfl rfl ?_ ?_)
 ·
  intro hg10
  try simp only [dn] at hg10
  refine vc_y rfl rfl ((by exact y_faz (k := 1) rfl Tryd.underlying80 rfl rfl Tryd.sizeOf2 rfl)) ?_
  refine vc_y rfl rfl ((by exact y_ld st 1 rfl Tryd.isAgg2 rfl rfl)) ?_
  refine vc_y rfl rfl ((by exact y_faz (k := 1) rfl Tryd.underlying80 rfl rfl Tryd.sizeOf2 rfl)) ?_
  refine vc_y rfl rfl ((by exact y_ld st 0 rfl Tryd.isAgg2 rfl rfl)) ?_
  refine vc_y rfl rfl (y_eqi rfl rfl) ?_
  refine vc_y rfl rfl (y_pickt rfl rfl) ?_
  refine vc_y rfl rfl (y_as rfl) ?_
  refine vc_end (vq_then (vc_keep [(4, _)] ⟨rfl, trivial⟩ (vc_ret ?_)))
  refine vq_ret1 st (.inl rfl) Tryd.results41 (.tmp rfl) ?_
  refine ⟨_, rfl, ?_⟩
  refine ⟨?_, st.chg⟩
  unfold sameD
  clear st
  first | (congr 1; rw [Bool.eq_iff_iff]; simp_all; done) | (congr 1; simp_all)
 ·
  intro hg10
  try simp only [dn] at hg10
  iterate 5 refine vc_e (e_skip rfl rfl ?_)
  refine vc_y rfl rfl (y_pickf rfl rfl) ?_
  refine vc_y rfl rfl (y_as rfl) ?_
  refine vc_end (vq_then (vc_keep [(4, _)] ⟨rfl, trivial⟩ (vc_ret ?_)))
  refine vq_ret1 st (.inl rfl) Tryd.results41 (.tmp rfl) ?_
  refine ⟨_, rfl, ?_⟩
  refine ⟨?_, st.chg⟩
  unfold sameD
  clear st
  first | (congr 1; rw [Bool.eq_iff_iff]; simp_all; done) | (congr 1; simp_all)

theorem pdecls_any (a b : List Dc) (oa ob : Option Addr) (ca cb : Nat) (w : World) (hA : DcRow w S oa a) (hB : DcRow w S ob b) (hn : a.length ≤ 1099511627776) :
    Ret Tryd.prog 40 [.slice oa a.length ca, .slice ob b.length cb, .func (.func 41) #[] #[]] w fun v w' => v = .bool (zipA sameD a b) ∧ Chg [] w w' := by
 refine ret_of [_, _, _] Tryd.func40 rfl Tryd.ntmps40 rfl ?_
 have st := St.init w []
 obtain ⟨w0, rfl⟩ : ∃ w0, w0 = w := ⟨_, rfl⟩
 refine vc_seq (vc_region ?_)
 refine vc_y rfl rfl (y_as rfl) ?_
 refine vc_end (vq_then (vc_keep [(0, _), (1, _), (2, _)] ⟨rfl, rfl, rfl, trivial⟩ (vc_seq (vc_seq (vc_region ?_)))))
 refine vc_y rfl rfl (y_mv rfl) ?_
 refine vc_y rfl rfl (y_lensl rfl Tryd.underlying41) ?_
 refine vc_y rfl rfl (y_mv rfl) ?_
 refine vc_y rfl rfl (y_lensl rfl Tryd.underlying41) ?_
 refine vc_y rfl rfl (y_nei rfl rfl) ?_
 refine vc_end (vq_then (vc_keep [(0, _), (1, _), (2, _), (12, _)] ⟨rfl, rfl, rfl, rfl, trivial⟩ ?_))
 refine vc_ifs rfl ?_ ?_
 ·
  intro hc12
  try simp only [dn] at hc12
  refine vc_seq (vc_region ?_)
  refine vc_y rfl rfl (y_as rfl) ?_
  refine vc_end (vq_then (vc_keep [(6, _)] ⟨rfl, trivial⟩ (vc_ret (vq_then_ret ?_))))
  refine vq_ret1 st (.inl rfl) Tryd.results40 (.tmp rfl) ?_
  refine ⟨_, rfl, ?_⟩
  refine ⟨?_, st.chg⟩
  rw [zipA_len (by omega)]
 ·
  intro hc12
  try simp only [dn] at hc12
  have hlen : a.length = b.length := by omega
  refine vc_code_skip (vq_then (vc_keep [(0, _), (1, _), (2, _)] ⟨rfl, rfl, rfl, trivial⟩ (vc_seq (vc_seq (vc_region ?_)))))
  refine vc_y rfl rfl (y_mv rfl) ?_
  refine vc_y rfl rfl (y_lensl rfl Tryd.underlying41) ?_
  refine vc_y rfl rfl (y_mv rfl) ?_
  refine vc_end (vq_then (vc_keep [(0, _), (1, _), (2, _), (14, _), (15, _)] ⟨rfl, rfl, rfl, rfl, rfl, trivial⟩ (vc_block ?_)))
  refine vc_loop (w0 := w0) (M := []) (fun (j : Nat) => [(0, .slice oa a.length ca), (1, .slice ob b.length cb), (2, .func (.func 41) #[] #[]), (14, .int .i64 (a.length : Int)), (15, .int .i64 (j : Int))]) (fun _ => []) (fun j _ => j ≤ a.length ∧ ∀ (i : Nat) x y, i < j → a[i]? = some x → b[i]? = some y → sameD x y = true) (fun j => a.length - j) 0 ⟨rfl, rfl, rfl, rfl, rfl, trivial⟩ (st.drop (by repeat (first | exact sl0 | apply sl1 | apply sl2))) ⟨by omega, fun i x y h => by omega⟩ ?_
  clear st
  rintro j w ⟨hj, hall⟩ st
  refine vc_seq (vc_region ?_)
  refine vc_y rfl rfl (y_lss rfl rfl) ?_
  refine vc_end (vq_then (vc_keep [(0, _), (1, _), (2, _), (14, _), (15, _), (16, _)] ⟨rfl, rfl, rfl, rfl, rfl, rfl, trivial⟩ (vc_seq ?_)))
  refine vc_ifs rfl ?_ ?_
  ·
   intro hc16
   try simp only [dn] at hc16
   obtain ⟨x, hx⟩ : ∃ x, a[j]? = some x := ⟨_, List.getElem?_eq_getElem (by omega)⟩
   obtain ⟨y, hy⟩ : ∃ y, b[j]? = some y := ⟨_, List.getElem?_eq_getElem (by omega)⟩
   obtain ⟨gb, go, rfl, hg⟩ := DcRow.gets hA (by omega)
   obtain ⟨fb, fo, rfl, hf⟩ := DcRow.gets hB (by omega)
   have hc := hg j x hx
   have hd := hf j y hy
   refine vc_code_skip (vq_then (vc_keep [(0, _), (1, _), (2, _), (14, _), (15, _)] ⟨rfl, rfl, rfl, rfl, rfl, trivial⟩ (vc_seq (vc_block (vc_seq (vc_region ?_))))))
   refine vc_y rfl rfl (y_mv rfl) ?_
   refine vc_y rfl rfl (y_as rfl) ?_
   refine vc_end (vq_then (vc_keep [(0, _), (1, _), (2, _), (7, _), (14, _), (15, _)] ⟨rfl, rfl, rfl, rfl, rfl, rfl, trivial⟩ (vc_seq ?_)))
   refine vc_draw Tryd.mixed [(0, true), (1, true), (2, true), (3, true), (4, true), (5, true), (6, true), (7, true), (8, true), (9, false), (10, true)] (fun w => St _ _ _ w) st (by kernel_rfl) (by repeat (first | exact okQ_noPan | exact okQ_body | exact okQ_bodyS | refine okQ_then ?_ | refine okQ_block ?_)) rfl (by kernel_rfl) ?_
   intro w cd; replace st := st.call0 cd; clear cd
   have hS := st
   iterate 3 refine vp_take rfl rfl rfl hS (fun w st => y_mv rfl) ?_
   refine vp_take rfl rfl rfl hS (fun w st => (by exact y_ia (k := j) rfl rfl Tryd.underlying41 Tryd.sizeOf80 rfl (by omega))) ?_
   refine vp_take rfl rfl rfl hS (fun w st => (by exact y_ldca (dcL x) rfl Tryd.isAgg80 Tryd.sizeOf80 rfl (fun i v hi => st.chg.cell (hc i v hi) (by simp)))) ?_
   iterate 2 refine vp_take rfl rfl rfl hS (fun w st => y_mv rfl) ?_
   refine vp_take rfl rfl rfl hS (fun w st => (by exact y_ia (k := j) rfl rfl Tryd.underlying41 Tryd.sizeOf80 rfl (by omega))) ?_
   refine vp_take rfl rfl rfl hS (fun w st => (by exact y_ldca (dcL y) rfl Tryd.isAgg80 Tryd.sizeOf80 rfl (fun i v hi => st.chg.cell (hd i v hi) (by simp)))) ?_
   refine vp_do rfl (e_callv [_, _] rfl rfl rfl Tryd.call41 rfl (psameD_any x y _) ?_)
   rintro _ w ⟨rfl, cw⟩
   replace st := st.call0 cw
   refine vp_next (by exact st) ?_; intro hS
   refine vp_take rfl rfl rfl hS (fun w st => y_not rfl) ?_
   refine vp_end (vq_then (vc_keep [(0, _), (1, _), (2, _), (14, _), (15, _), (28, _)] ⟨rfl, rfl, rfl, rfl, rfl, rfl, trivial⟩ ?_))
   refine vc_ifs rfl ?_ ?_
   ·
    intro hc28
    try simp only [dn] at hc28
    refine vc_seq (vc_region ?_)
    refine vc_y rfl rfl (y_as rfl) ?_
    refine vc_end (vq_then (vc_keep [(6, _)] ⟨rfl, trivial⟩ (vc_ret (vq_block_ret (vq_then_ret (vq_then_ret (vq_block_ret (vq_then_ret ?_))))))))
    refine vq_ret1 st (.inl rfl) Tryd.results40 (.tmp rfl) ?_
    refine ⟨_, rfl, ?_⟩
    refine ⟨?_, st.chg⟩
    rw [zipA_no hx hy (by assumption)]
   ·
    intro hc28
    try simp only [dn] at hc28
    refine vc_code_skip (vq_block (vq_then (vc_keep [(0, _), (1, _), (2, _), (14, _), (15, _)] ⟨rfl, rfl, rfl, rfl, rfl, trivial⟩ (vc_region ?_))))
    refine vc_y rfl rfl (y_add rfl rfl (by omega : _ = ((j + 1 : Nat) : Int)) (by omega) (by omega)) ?_
    refine vc_y rfl rfl (y_mv rfl) ?_
    refine vc_end ?_
    refine vq_again (j + 1)  ⟨rfl, rfl, rfl, rfl, rfl, trivial⟩ (st.drop (by repeat (first | exact sl0 | apply sl1 | apply sl2))) ?_ ?_
    ·
     exact ⟨by omega, fun i x' y' hi h1 h2 => by
         rcases (by omega : i < j ∨ i = j) with h | rfl
         · exact hall i x' y' h h1 h2
         · rw [hx] at h1; rw [hy] at h2; cases h1; cases h2; assumption⟩
    ·
     omega
  ·
   intro hc16
   try simp only [dn] at hc16
   refine vc_exit (vq_then_exit (vq_then_exit (vq_block_exit (vq_then (vc_keep [] trivial (vc_seq (vc_region ?_)))))))
   refine vc_y rfl rfl (y_as rfl) ?_
   refine vc_end (vq_then (vc_keep [(6, _)] ⟨rfl, trivial⟩ (vc_ret ?_)))
   refine vq_ret1 st (.inl rfl) Tryd.results40 (.tmp rfl) ?_
   refine ⟨_, rfl, ?_⟩
   refine ⟨?_, st.chg⟩
   rw [zipA_yes hlen fun i x y hi h1 h2 => hall i x y (by omega) h1 h2]

theorem psameE_of (e y : Ex) (o o' : Option Addr) (c c' : Nat) (w : World) (hr : ExRow w S o e.kids) (hr' : ExRow w S o' y.kids)
    (hrec : ∀ w, ExRow w S o e.kids → ExRow w S o' y.kids → Ret Tryd.prog 46 [.slice o e.kids.length c, .slice o' y.kids.length c', .func (.func 19) #[] #[]] w fun v w' => v = .bool (zipA sameE e.kids y.kids) ∧ Chg [] w w') :
  Ret Tryd.prog 19 [.agg (exC e o c).toArray, .agg (exC y o' c').toArray] w fun v w' => v = .bool (sameE e y) ∧ Chg [] w w' := by
 refine ret_of [_, _] Tryd.func19 rfl Tryd.ntmps19 rfl ?_
 have st := St.init w []
 obtain ⟨w0, rfl⟩ : ∃ w0, w0 = w := ⟨_, rfl⟩
 refine vc_seq (vc_region ?_)
 refine vc_e (e_bx (l := [_, _, _, _, _, _]) st rfl rfl rfl rfl ?_)
 intro b2 w hb2 st
 refine vc_e (e_bx (l := [_, _, _, _, _, _]) st rfl rfl rfl rfl ?_)
 intro b3 w hb3 st
 refine vc_y rfl rfl (y_as rfl) ?_
 refine vc_end (vq_then (vc_keep [(2, _), (3, _)] ⟨rfl, rfl, trivial⟩ (vc_seq (vc_region ?_))))
 refine vc_y rfl rfl (y_fa0 rfl Tryd.underlying26 rfl rfl Tryd.sizeOf22 rfl) ?_
 refine vc_y rfl rfl ((by exact y_ld st 1 rfl Tryd.isAgg22 rfl rfl)) ?_
 refine vc_y rfl rfl (y_fa0 rfl Tryd.underlying26 rfl rfl Tryd.sizeOf22 rfl) ?_
 refine vc_y rfl rfl ((by exact y_ld st 0 rfl Tryd.isAgg22 rfl rfl)) ?_
 refine vc_y rfl rfl (y_eqi rfl rfl) ?_
 refine vc_e (e_mvb rfl rfl rfl ?_ ?_)
 ·
  intro hg10
  try simp only [dn] at hg10
  refine vc_y rfl rfl ((by exact y_faz (k := 1) rfl Tryd.underlying26 rfl rfl Tryd.sizeOf23 rfl)) ?_
  refine vc_y rfl rfl ((by exact y_ld st 1 rfl Tryd.isAgg23 rfl rfl)) ?_
  refine vc_y rfl rfl ((by exact y_faz (k := 1) rfl Tryd.underlying26 rfl rfl Tryd.sizeOf23 rfl)) ?_
  refine vc_y rfl rfl ((by exact y_ld st 0 rfl Tryd.isAgg23 rfl rfl)) ?_
  refine vc_y rfl rfl (y_eqi rfl rfl) ?_
  refine vc_y rfl rfl (y_pickt rfl rfl) ?_
  refine vc_e (e_mvb rfl rfl rfl ?_ ?_)
  ·
   intro hg17
   try simp only [dn] at hg17
   refine vc_y rfl rfl ((by exact y_faz (k := 2) rfl Tryd.underlying26 rfl rfl Tryd.sizeOf2 rfl)) ?_
   refine vc_y rfl rfl ((by exact y_ld st 1 rfl Tryd.isAgg2 rfl rfl)) ?_
   refine vc_y rfl rfl ((by exact y_faz (k := 2) rfl Tryd.underlying26 rfl rfl Tryd.sizeOf2 rfl)) ?_
   refine vc_y rfl rfl ((by exact y_ld st 0 rfl Tryd.isAgg2 rfl rfl)) ?_
   refine vc_y rfl rfl (y_eqi rfl rfl) ?_
   refine vc_y rfl rfl (y_pickt rfl rfl) ?_
   refine vc_e (e_mvb rfl rfl rfl ?_ ?_)
   ·
    intro hg24
    try simp only [dn] at hg24
    refine vc_y rfl rfl ((by exact y_faz (k := 3) rfl Tryd.underlying26 rfl rfl Tryd.sizeOf9 rfl)) ?_
    refine vc_y rfl rfl ((by exact y_ld st 1 rfl Tryd.isAgg9 rfl rfl)) ?_
    refine vc_y rfl rfl ((by exact y_faz (k := 3) rfl Tryd.underlying26 rfl rfl Tryd.sizeOf9 rfl)) ?_
    refine vc_y rfl rfl ((by exact y_ld st 0 rfl Tryd.isAgg9 rfl rfl)) ?_
    refine vc_y rfl rfl (y_eqs rfl rfl) ?_
    refine vc_y rfl rfl (y_pickt rfl rfl) ?_
    refine vc_e (e_mvb rfl rfl rfl ?_ ?_)
    ·
     intro hg31
     try simp only [dn] at hg31
     refine vc_y rfl rfl ((by exact y_faz (k := 4) rfl Tryd.underlying26 rfl rfl Tryd.sizeOf24 rfl)) ?_
     refine vc_y rfl rfl ((by exact y_ld st 1 rfl Tryd.isAgg24 rfl rfl)) ?_
     refine vc_y rfl rfl ((by exact y_faz (k := 4) rfl Tryd.underlying26 rfl rfl Tryd.sizeOf24 rfl)) ?_
     refine vc_y rfl rfl ((by exact y_ld st 0 rfl Tryd.isAgg24 rfl rfl)) ?_
     refine vc_e (e_call [_, _, _] rfl rfl Tryd.call46 rfl (hrec _ (hr.kept (Same.of_nil st.chg)) (hr'.kept (Same.of_nil st.chg))) ?_)
     rintro _ w ⟨rfl, cw⟩
     replace st := st.call0 cw
     refine vc_y rfl rfl (y_pickt rfl rfl) ?_
     refine vc_y rfl rfl (y_as rfl) ?_
     refine vc_end (vq_then (vc_keep [(4, _)] ⟨rfl, trivial⟩ (vc_ret ?_)))
     refine vq_ret1 st (.inl rfl) Tryd.results19 (.tmp rfl) ?_
     refine ⟨_, rfl, ?_⟩
     refine ⟨?_, st.chg⟩
     rw [sameE_eq]
     first
      | (rw [show decide (e.k = y.k ∧ e.op = y.op ∧ e.wd = y.wd ∧ e.nm = y.nm) = false from by
          simp only [decide_eq_false_iff_not]
          rintro ⟨q1, q2, q3, q4⟩
          simp_all]
         rfl)
      | (rw [show decide (e.k = y.k ∧ e.op = y.op ∧ e.wd = y.wd ∧ e.nm = y.nm) = true from by simp_all, Bool.true_and])
    ·
     intro hg31
     try simp only [dn] at hg31
     iterate 5 refine vc_e (e_skip rfl rfl ?_)
     refine vc_y rfl rfl (y_pickf rfl rfl) ?_
     refine vc_y rfl rfl (y_as rfl) ?_
     refine vc_end (vq_then (vc_keep [(4, _)] ⟨rfl, trivial⟩ (vc_ret ?_)))
     refine vq_ret1 st (.inl rfl) Tryd.results19 (.tmp rfl) ?_
     refine ⟨_, rfl, ?_⟩
     refine ⟨?_, st.chg⟩
     rw [sameE_eq]
     first
      | (rw [show decide (e.k = y.k ∧ e.op = y.op ∧ e.wd = y.wd ∧ e.nm = y.nm) = false from by
          simp only [decide_eq_false_iff_not]
          rintro ⟨q1, q2, q3, q4⟩
          simp_all]
         rfl)
      | (rw [show decide (e.k = y.k ∧ e.op = y.op ∧ e.wd = y.wd ∧ e.nm = y.nm) = true from by simp_all, Bool.true_and])
   ·
    intro hg24
    try simp only [dn] at hg24
    iterate 5 refine vc_e (e_skip rfl rfl ?_)
    refine vc_y rfl rfl (y_pickf rfl rfl) ?_
    refine vc_y rfl rfl (y_mv rfl) ?_
    iterate 5 refine vc_e (e_skip rfl rfl ?_)
    refine vc_y rfl rfl (y_pickf rfl rfl) ?_
    refine vc_y rfl rfl (y_as rfl) ?_
    refine vc_end (vq_then (vc_keep [(4, _)] ⟨rfl, trivial⟩ (vc_ret ?_)))
    refine vq_ret1 st (.inl rfl) Tryd.results19 (.tmp rfl) ?_
    refine ⟨_, rfl, ?_⟩
    refine ⟨?_, st.chg⟩
    rw [sameE_eq]
    first
     | (rw [show decide (e.k = y.k ∧ e.op = y.op ∧ e.wd = y.wd ∧ e.nm = y.nm) = false from by
         simp only [decide_eq_false_iff_not]
         rintro ⟨q1, q2, q3, q4⟩
         simp_all]
        rfl)
     | (rw [show decide (e.k = y.k ∧ e.op = y.op ∧ e.wd = y.wd ∧ e.nm = y.nm) = true from by simp_all, Bool.true_and])
  ·
   intro hg17
   try simp only [dn] at hg17
   iterate 5 refine vc_e (e_skip rfl rfl ?_)
   refine vc_y rfl rfl (y_pickf rfl rfl) ?_
   refine vc_y rfl rfl (y_mv rfl) ?_
   iterate 5 refine vc_e (e_skip rfl rfl ?_)
   refine vc_y rfl rfl (y_pickf rfl rfl) ?_
   refine vc_y rfl rfl (y_mv rfl) ?_
   iterate 5 refine vc_e (e_skip rfl rfl ?_)
   refine vc_y rfl rfl (y_pickf rfl rfl) ?_
   refine vc_y rfl rfl (y_as rfl) ?_
   refine vc_end (vq_then (vc_keep [(4, _)] ⟨rfl, trivial⟩ (vc_ret ?_)))
   refine vq_ret1 st (.inl rfl) Tryd.results19 (.tmp rfl) ?_
   refine ⟨_, rfl, ?_⟩
   refine ⟨?_, st.chg⟩
   rw [sameE_eq]
   first
    | (rw [show decide (e.k = y.k ∧ e.op = y.op ∧ e.wd = y.wd ∧ e.nm = y.nm) = false from by
        simp only [decide_eq_false_iff_not]
        rintro ⟨q1, q2, q3, q4⟩
        simp_all]
       rfl)
    | (rw [show decide (e.k = y.k ∧ e.op = y.op ∧ e.wd = y.wd ∧ e.nm = y.nm) = true from by simp_all, Bool.true_and])
 ·
  intro hg10
  try simp only [dn] at hg10
  iterate 5 refine vc_e (e_skip rfl rfl ?_)
  refine vc_y rfl rfl (y_pickf rfl rfl) ?_
  refine vc_y rfl rfl (y_mv rfl) ?_
  iterate 5 refine vc_e (e_skip rfl rfl ?_)
  refine vc_y rfl rfl (y_pickf rfl rfl) ?_
  refine vc_y rfl rfl (y_mv rfl) ?_
  iterate 5 refine vc_e (e_skip rfl rfl ?_)
  refine vc_y rfl rfl (y_pickf rfl rfl) ?_
  refine vc_y rfl rfl (y_mv rfl) ?_
  iterate 5 refine vc_e (e_skip rfl rfl ?_)
  refine vc_y rfl rfl (y_pickf rfl rfl) ?_
  refine vc_y rfl rfl (y_as rfl) ?_
  refine vc_end (vq_then (vc_keep [(4, _)] ⟨rfl, trivial⟩ (vc_ret ?_)))
  refine vq_ret1 st (.inl rfl) Tryd.results19 (.tmp rfl) ?_
  refine ⟨_, rfl, ?_⟩
  refine ⟨?_, st.chg⟩
  rw [sameE_eq]
  first
   | (rw [show decide (e.k = y.k ∧ e.op = y.op ∧ e.wd = y.wd ∧ e.nm = y.nm) = false from by
       simp only [decide_eq_false_iff_not]
       rintro ⟨q1, q2, q3, q4⟩
       simp_all]
      rfl)
   | (rw [show decide (e.k = y.k ∧ e.op = y.op ∧ e.wd = y.wd ∧ e.nm = y.nm) = true from by simp_all, Bool.true_and])

theorem pexprs_any : ∀ (n : Nat) (a : List Ex), szo a = n → OkEs a → ∀ (b : List Ex) (oa ob : Option Addr) (ca cb : Nat) (w : World), ExRow w S oa a → ExRow w S ob b →
    Ret Tryd.prog 46 [.slice oa a.length ca, .slice ob b.length cb, .func (.func 19) #[] #[]] w fun v w' => v = .bool (zipA sameE a b) ∧ Chg [] w w' := by
 intro n
 refine Nat.strongRecOn n fun n ih => ?_
 intro a hn hok b oa ob ca cb w hA hB
 subst hn
 have hn := hok.1
 refine ret_of [_, _, _] Tryd.func46 rfl Tryd.ntmps46 rfl ?_
 have st := St.init w []
 obtain ⟨w0, rfl⟩ : ∃ w0, w0 = w := ⟨_, rfl⟩
 refine vc_seq (vc_region ?_)
 refine vc_y rfl rfl (y_as rfl) ?_
 refine vc_end (vq_then (vc_keep [(0, _), (1, _), (2, _)] ⟨rfl, rfl, rfl, trivial⟩ (vc_seq (vc_seq (vc_region ?_)))))
 refine vc_y rfl rfl (y_mv rfl) ?_
 refine vc_y rfl rfl (y_lensl rfl Tryd.underlying24) ?_
 refine vc_y rfl rfl (y_mv rfl) ?_
 refine vc_y rfl rfl (y_lensl rfl Tryd.underlying24) ?_
 refine vc_y rfl rfl (y_nei rfl rfl) ?_
 refine vc_end (vq_then (vc_keep [(0, _), (1, _), (2, _), (12, _)] ⟨rfl, rfl, rfl, rfl, trivial⟩ ?_))
 refine vc_ifs rfl ?_ ?_
 ·
  intro hc12
  try simp only [dn] at hc12
  refine vc_seq (vc_region ?_)
  refine vc_y rfl rfl (y_as rfl) ?_
  refine vc_end (vq_then (vc_keep [(6, _)] ⟨rfl, trivial⟩ (vc_ret (vq_then_ret ?_))))
  refine vq_ret1 st (.inl rfl) Tryd.results46 (.tmp rfl) ?_
  refine ⟨_, rfl, ?_⟩
  refine ⟨?_, st.chg⟩
  rw [zipA_len (by omega)]
 ·
  intro hc12
  try simp only [dn] at hc12
  have hlen : a.length = b.length := by omega
  refine vc_code_skip (vq_then (vc_keep [(0, _), (1, _), (2, _)] ⟨rfl, rfl, rfl, trivial⟩ (vc_seq (vc_seq (vc_region ?_)))))
  refine vc_y rfl rfl (y_mv rfl) ?_
  refine vc_y rfl rfl (y_lensl rfl Tryd.underlying24) ?_
  refine vc_y rfl rfl (y_mv rfl) ?_
  refine vc_end (vq_then (vc_keep [(0, _), (1, _), (2, _), (14, _), (15, _)] ⟨rfl, rfl, rfl, rfl, rfl, trivial⟩ (vc_block ?_)))
  refine vc_loop (w0 := w0) (M := []) (fun (j : Nat) => [(0, .slice oa a.length ca), (1, .slice ob b.length cb), (2, .func (.func 19) #[] #[]), (14, .int .i64 (a.length : Int)), (15, .int .i64 (j : Int))]) (fun _ => []) (fun j _ => j ≤ a.length ∧ ∀ (i : Nat) x y, i < j → a[i]? = some x → b[i]? = some y → sameE x y = true) (fun j => a.length - j) 0 ⟨rfl, rfl, rfl, rfl, rfl, trivial⟩ (st.drop (by repeat (first | exact sl0 | apply sl1 | apply sl2))) ⟨by omega, fun i x y h => by omega⟩ ?_
  clear st
  rintro j w ⟨hj, hall⟩ st
  refine vc_seq (vc_region ?_)
  refine vc_y rfl rfl (y_lss rfl rfl) ?_
  refine vc_end (vq_then (vc_keep [(0, _), (1, _), (2, _), (14, _), (15, _), (16, _)] ⟨rfl, rfl, rfl, rfl, rfl, rfl, trivial⟩ (vc_seq ?_)))
  refine vc_ifs rfl ?_ ?_
  ·
   intro hc16
   try simp only [dn] at hc16
   obtain ⟨x, hx⟩ : ∃ x, a[j]? = some x := ⟨_, List.getElem?_eq_getElem (by omega)⟩
   obtain ⟨y, hy⟩ : ∃ y, b[j]? = some y := ⟨_, List.getElem?_eq_getElem (by omega)⟩
   obtain ⟨gb, go, rfl, hg⟩ := ExRow.gets hA (by omega)
   obtain ⟨fb, fo, rfl, hf⟩ := ExRow.gets hB (by omega)
   obtain ⟨o0, c0, hc, hr0⟩ := hg j x hx
   obtain ⟨o1, c1, hd, hr1⟩ := hf j y hy
   have hkx := hok.2 j x hx
   have hz := mem_size hx
   have hz2 : szo x.kids < szo a := by have := szo_kids x; omega
   refine vc_code_skip (vq_then (vc_keep [(0, _), (1, _), (2, _), (14, _), (15, _)] ⟨rfl, rfl, rfl, rfl, rfl, trivial⟩ (vc_seq (vc_block (vc_seq (vc_region ?_))))))
   refine vc_y rfl rfl (y_mv rfl) ?_
   refine vc_y rfl rfl (y_as rfl) ?_
   refine vc_end (vq_then (vc_keep [(0, _), (1, _), (2, _), (7, _), (14, _), (15, _)] ⟨rfl, rfl, rfl, rfl, rfl, rfl, trivial⟩ (vc_seq ?_)))
   refine vc_draw Tryd.mixed [(0, true), (1, true), (2, true), (3, true), (4, true), (5, true), (6, true), (7, true), (8, true), (9, false), (10, true)] (fun w => St _ _ _ w) st (by kernel_rfl) (by repeat (first | exact okQ_noPan | exact okQ_body | exact okQ_bodyS | refine okQ_then ?_ | refine okQ_block ?_)) rfl (by kernel_rfl) ?_
   intro w cd; replace st := st.call0 cd; clear cd
   have hS := st
   iterate 3 refine vp_take rfl rfl rfl hS (fun w st => y_mv rfl) ?_
   refine vp_take rfl rfl rfl hS (fun w st => (by exact y_ia (k := j) rfl rfl Tryd.underlying24 Tryd.sizeOf26 rfl (by omega))) ?_
   refine vp_take rfl rfl rfl hS (fun w st => (by exact y_ldca (exC x o0 c0) rfl Tryd.isAgg26 Tryd.sizeOf26 rfl (fun i v hi => st.chg.cell (hc i v hi) (by simp)))) ?_
   iterate 2 refine vp_take rfl rfl rfl hS (fun w st => y_mv rfl) ?_
   refine vp_take rfl rfl rfl hS (fun w st => (by exact y_ia (k := j) rfl rfl Tryd.underlying24 Tryd.sizeOf26 rfl (by omega))) ?_
   refine vp_take rfl rfl rfl hS (fun w st => (by exact y_ldca (exC y o1 c1) rfl Tryd.isAgg26 Tryd.sizeOf26 rfl (fun i v hi => st.chg.cell (hd i v hi) (by simp)))) ?_
   refine vp_do rfl (e_callv [_, _] rfl rfl rfl Tryd.call19 rfl (psameE_of x y o0 o1 c0 c1 _ (hr0.kept (Same.of_nil st.chg)) (hr1.kept (Same.of_nil st.chg)) (fun w h1 h2 => ih _ hz2 x.kids rfl hkx.kids y.kids _ _ _ _ w h1 h2)) ?_)
   rintro _ w ⟨rfl, cw⟩
   replace st := st.call0 cw
   refine vp_next (by exact st) ?_; intro hS
   refine vp_take rfl rfl rfl hS (fun w st => y_not rfl) ?_
   refine vp_end (vq_then (vc_keep [(0, _), (1, _), (2, _), (14, _), (15, _), (28, _)] ⟨rfl, rfl, rfl, rfl, rfl, rfl, trivial⟩ ?_))
   refine vc_ifs rfl ?_ ?_
   ·
    intro hc28
    try simp only [dn] at hc28
    refine vc_seq (vc_region ?_)
    refine vc_y rfl rfl (y_as rfl) ?_
    refine vc_end (vq_then (vc_keep [(6, _)] ⟨rfl, trivial⟩ (vc_ret (vq_block_ret (vq_then_ret (vq_then_ret (vq_block_ret (vq_then_ret ?_))))))))
    refine vq_ret1 st (.inl rfl) Tryd.results46 (.tmp rfl) ?_
    refine ⟨_, rfl, ?_⟩
    refine ⟨?_, st.chg⟩
    rw [zipA_no hx hy (by assumption)]
   ·
    intro hc28
    try simp only [dn] at hc28
    refine vc_code_skip (vq_block (vq_then (vc_keep [(0, _), (1, _), (2, _), (14, _), (15, _)] ⟨rfl, rfl, rfl, rfl, rfl, trivial⟩ (vc_region ?_))))
    refine vc_y rfl rfl (y_add rfl rfl (by omega : _ = ((j + 1 : Nat) : Int)) (by omega) (by omega)) ?_
    refine vc_y rfl rfl (y_mv rfl) ?_
    refine vc_end ?_
    refine vq_again (j + 1)  ⟨rfl, rfl, rfl, rfl, rfl, trivial⟩ (st.drop (by repeat (first | exact sl0 | apply sl1 | apply sl2))) ?_ ?_
    ·
     exact ⟨by omega, fun i x' y' hi h1 h2 => by
         rcases (by omega : i < j ∨ i = j) with h | rfl
         · exact hall i x' y' h h1 h2
         · rw [hx] at h1; rw [hy] at h2; cases h1; cases h2; assumption⟩
    ·
     omega
  ·
   intro hc16
   try simp only [dn] at hc16
   refine vc_exit (vq_then_exit (vq_then_exit (vq_block_exit (vq_then (vc_keep [] trivial (vc_seq (vc_region ?_)))))))
   refine vc_y rfl rfl (y_as rfl) ?_
   refine vc_end (vq_then (vc_keep [(6, _)] ⟨rfl, trivial⟩ (vc_ret ?_)))
   refine vq_ret1 st (.inl rfl) Tryd.results46 (.tmp rfl) ?_
   refine ⟨_, rfl, ?_⟩
   refine ⟨?_, st.chg⟩
   rw [zipA_yes hlen fun i x y hi h1 h2 => hall i x y (by omega) h1 h2]

theorem psameE_any (e y : Ex) (hok : OkEs e.kids) (o o' : Option Addr) (c c' : Nat) (w : World) (hr : ExRow w S o e.kids) (hr' : ExRow w S o' y.kids) :
    Ret Tryd.prog 19 [.agg (exC e o c).toArray, .agg (exC y o' c').toArray] w fun v w' => v = .bool (sameE e y) ∧ Chg [] w w' :=
 psameE_of e y o o' c c' w hr hr' fun w h1 h2 => pexprs_any _ e.kids rfl hok y.kids _ _ _ _ w h1 h2

set_option maxHeartbeats 1000000 in
theorem psameS_of (x y : Sm) (hok : OkS x) (oe ob ol oe' ob' ol' : Option Addr) (ce cb cl ce' cb' cl' : Nat) (w : World) (he : ExRow w S oe x.e) (hb : SmRow w S ob x.body) (hl : SmRow w S ol x.els) (he' : ExRow w S oe' y.e) (hb' : SmRow w S ob' y.body) (hl' : SmRow w S ol' y.els)
    (ihb : ∀ w, SmRow w S ob x.body → SmRow w S ob' y.body → Ret Tryd.prog 44 [.slice ob x.body.length cb, .slice ob' y.body.length cb', .func (.func 45) #[] #[]] w fun v w' => v = .bool (zipA sameS x.body y.body) ∧ Chg [] w w')
  (ihl : ∀ w, SmRow w S ol x.els → SmRow w S ol' y.els → Ret Tryd.prog 44 [.slice ol x.els.length cl, .slice ol' y.els.length cl', .func (.func 45) #[] #[]] w fun v w' => v = .bool (zipA sameS x.els y.els) ∧ Chg [] w w') :
  Ret Tryd.prog 45 [.agg (smC x oe ob ol ce cb cl).toArray, .agg (smC y oe' ob' ol' ce' cb' cl').toArray] w fun v w' => v = .bool (sameS x y) ∧ Chg [] w w' := by
 refine ret_of [_, _] Tryd.func45 rfl Tryd.ntmps45 rfl ?_
 have st := St.init w []
 obtain ⟨w0, rfl⟩ : ∃ w0, w0 = w := ⟨_, rfl⟩
 refine vc_seq (vc_region ?_)
 refine vc_e (e_bx (l := [_, _, _, _, _, _, _]) st rfl rfl rfl rfl ?_)
 intro b2 w hb2 st
 refine vc_e (e_bx (l := [_, _, _, _, _, _, _]) st rfl rfl rfl rfl ?_)
 intro b3 w hb3 st
 refine vc_y rfl rfl (y_as rfl) ?_
 refine vc_end (vq_then (vc_keep [(2, _), (3, _)] ⟨rfl, rfl, trivial⟩ (vc_seq (vc_region ?_))))
 refine vc_y rfl rfl (y_fa0 rfl Tryd.underlying83 rfl rfl Tryd.sizeOf81 rfl) ?_
 refine vc_y rfl rfl ((by exact y_ld st 1 rfl Tryd.isAgg81 rfl rfl)) ?_
 refine vc_y rfl rfl (y_fa0 rfl Tryd.underlying83 rfl rfl Tryd.sizeOf81 rfl) ?_
 refine vc_y rfl rfl ((by exact y_ld st 0 rfl Tryd.isAgg81 rfl rfl)) ?_
 refine vc_y rfl rfl (y_eqi rfl rfl) ?_
 refine vc_e (e_mvb rfl rfl rfl ?_ ?_)
 ·
  intro hg10
  try simp only [dn] at hg10
  refine vc_y rfl rfl ((by exact y_faz (k := 1) rfl Tryd.underlying83 rfl rfl Tryd.sizeOf9 rfl)) ?_
  refine vc_y rfl rfl ((by exact y_ld st 1 rfl Tryd.isAgg9 rfl rfl)) ?_
  refine vc_y rfl rfl ((by exact y_faz (k := 1) rfl Tryd.underlying83 rfl rfl Tryd.sizeOf9 rfl)) ?_
  refine vc_y rfl rfl ((by exact y_ld st 0 rfl Tryd.isAgg9 rfl rfl)) ?_
  refine vc_y rfl rfl (y_eqs rfl rfl) ?_
  refine vc_y rfl rfl (y_pickt rfl rfl) ?_
  refine vc_e (e_mvb rfl rfl rfl ?_ ?_)
  ·
   intro hg17
   try simp only [dn] at hg17
   refine vc_y rfl rfl ((by exact y_faz (k := 2) rfl Tryd.underlying83 rfl rfl Tryd.sizeOf9 rfl)) ?_
   refine vc_y rfl rfl ((by exact y_ld st 1 rfl Tryd.isAgg9 rfl rfl)) ?_
   refine vc_y rfl rfl ((by exact y_faz (k := 2) rfl Tryd.underlying83 rfl rfl Tryd.sizeOf9 rfl)) ?_
   refine vc_y rfl rfl ((by exact y_ld st 0 rfl Tryd.isAgg9 rfl rfl)) ?_
   refine vc_y rfl rfl (y_eqs rfl rfl) ?_
   refine vc_y rfl rfl (y_pickt rfl rfl) ?_
   refine vc_e (e_mvb rfl rfl rfl ?_ ?_)
   ·
    intro hg24
    try simp only [dn] at hg24
    refine vc_y rfl rfl ((by exact y_faz (k := 3) rfl Tryd.underlying83 rfl rfl Tryd.sizeOf24 rfl)) ?_
    refine vc_y rfl rfl ((by exact y_ld st 1 rfl Tryd.isAgg24 rfl rfl)) ?_
    refine vc_y rfl rfl ((by exact y_faz (k := 3) rfl Tryd.underlying83 rfl rfl Tryd.sizeOf24 rfl)) ?_
    refine vc_y rfl rfl ((by exact y_ld st 0 rfl Tryd.isAgg24 rfl rfl)) ?_
    refine vc_e (e_call [_, _, _] rfl rfl Tryd.call46 rfl (pexprs_any _ x.e rfl hok.e y.e _ _ _ _ _ (he.kept (Same.of_nil st.chg)) (he'.kept (Same.of_nil st.chg))) ?_)
    rintro _ w ⟨rfl, cw⟩
    replace st := st.call0 cw
    refine vc_y rfl rfl (y_pickt rfl rfl) ?_
    refine vc_e (e_mvb rfl rfl rfl ?_ ?_)
    ·
     intro hg31
     try simp only [dn] at hg31
     refine vc_y rfl rfl ((by exact y_faz (k := 4) rfl Tryd.underlying83 rfl rfl Tryd.sizeOf76 rfl)) ?_
     refine vc_y rfl rfl ((by exact y_ld st 1 rfl Tryd.isAgg76 rfl rfl)) ?_
     refine vc_y rfl rfl ((by exact y_faz (k := 4) rfl Tryd.underlying83 rfl rfl Tryd.sizeOf76 rfl)) ?_
     refine vc_y rfl rfl ((by exact y_ld st 0 rfl Tryd.isAgg76 rfl rfl)) ?_
     refine vc_e (e_call [_, _, _] rfl rfl Tryd.call44 rfl (ihb _ (hb.kept (Same.of_nil st.chg)) (hb'.kept (Same.of_nil st.chg))) ?_)
     rintro _ w ⟨rfl, cw⟩
     replace st := st.call0 cw
     refine vc_y rfl rfl (y_pickt rfl rfl) ?_
     refine vc_e (e_mvb rfl rfl rfl ?_ ?_)
     ·
      intro hg38
      try simp only [dn] at hg38
      refine vc_y rfl rfl ((by exact y_faz (k := 5) rfl Tryd.underlying83 rfl rfl Tryd.sizeOf76 rfl)) ?_
      refine vc_y rfl rfl ((by exact y_ld st 1 rfl Tryd.isAgg76 rfl rfl)) ?_
      refine vc_y rfl rfl ((by exact y_faz (k := 5) rfl Tryd.underlying83 rfl rfl Tryd.sizeOf76 rfl)) ?_
      refine vc_y rfl rfl ((by exact y_ld st 0 rfl Tryd.isAgg76 rfl rfl)) ?_
      refine vc_e (e_call [_, _, _] rfl rfl Tryd.call44 rfl (ihl _ (hl.kept (Same.of_nil st.chg)) (hl'.kept (Same.of_nil st.chg))) ?_)
      rintro _ w ⟨rfl, cw⟩
      replace st := st.call0 cw
      refine vc_y rfl rfl (y_pickt rfl rfl) ?_
      refine vc_y rfl rfl (y_as rfl) ?_
      refine vc_end (vq_then (vc_keep [(4, _)] ⟨rfl, trivial⟩ (vc_ret ?_)))
      refine vq_ret1 st (.inl rfl) Tryd.results45 (.tmp rfl) ?_
      refine ⟨_, rfl, ?_⟩
      refine ⟨?_, st.chg⟩
      rw [sameS_eq]
      clear st
      simp_all
     ·
      intro hg38
      try simp only [dn] at hg38
      iterate 5 refine vc_e (e_skip rfl rfl ?_)
      refine vc_y rfl rfl (y_pickf rfl rfl) ?_
      refine vc_y rfl rfl (y_as rfl) ?_
      refine vc_end (vq_then (vc_keep [(4, _)] ⟨rfl, trivial⟩ (vc_ret ?_)))
      refine vq_ret1 st (.inl rfl) Tryd.results45 (.tmp rfl) ?_
      refine ⟨_, rfl, ?_⟩
      refine ⟨?_, st.chg⟩
      rw [sameS_eq]
      clear st
      simp_all
    ·
     intro hg31
     try simp only [dn] at hg31
     iterate 5 refine vc_e (e_skip rfl rfl ?_)
     refine vc_y rfl rfl (y_pickf rfl rfl) ?_
     refine vc_y rfl rfl (y_mv rfl) ?_
     iterate 5 refine vc_e (e_skip rfl rfl ?_)
     refine vc_y rfl rfl (y_pickf rfl rfl) ?_
     refine vc_y rfl rfl (y_as rfl) ?_
     refine vc_end (vq_then (vc_keep [(4, _)] ⟨rfl, trivial⟩ (vc_ret ?_)))
     refine vq_ret1 st (.inl rfl) Tryd.results45 (.tmp rfl) ?_
     refine ⟨_, rfl, ?_⟩
     refine ⟨?_, st.chg⟩
     rw [sameS_eq]
     clear st
     simp_all
   ·
    intro hg24
    try simp only [dn] at hg24
    iterate 5 refine vc_e (e_skip rfl rfl ?_)
    refine vc_y rfl rfl (y_pickf rfl rfl) ?_
    refine vc_y rfl rfl (y_mv rfl) ?_
    iterate 5 refine vc_e (e_skip rfl rfl ?_)
    refine vc_y rfl rfl (y_pickf rfl rfl) ?_
    refine vc_y rfl rfl (y_mv rfl) ?_
    iterate 5 refine vc_e (e_skip rfl rfl ?_)
    refine vc_y rfl rfl (y_pickf rfl rfl) ?_
    refine vc_y rfl rfl (y_as rfl) ?_
    refine vc_end (vq_then (vc_keep [(4, _)] ⟨rfl, trivial⟩ (vc_ret ?_)))
    refine vq_ret1 st (.inl rfl) Tryd.results45 (.tmp rfl) ?_
    refine ⟨_, rfl, ?_⟩
    refine ⟨?_, st.chg⟩
    rw [sameS_eq]
    clear st
    simp_all
  ·
   intro hg17
   try simp only [dn] at hg17
   iterate 5 refine vc_e (e_skip rfl rfl ?_)
   refine vc_y rfl rfl (y_pickf rfl rfl) ?_
   refine vc_y rfl rfl (y_mv rfl) ?_
   iterate 5 refine vc_e (e_skip rfl rfl ?_)
   refine vc_y rfl rfl (y_pickf rfl rfl) ?_
   refine vc_y rfl rfl (y_mv rfl) ?_
   iterate 5 refine vc_e (e_skip rfl rfl ?_)
   refine vc_y rfl rfl (y_pickf rfl rfl) ?_
   refine vc_y rfl rfl (y_mv rfl) ?_
   iterate 5 refine vc_e (e_skip rfl rfl ?_)
   refine vc_y rfl rfl (y_pickf rfl rfl) ?_
   refine vc_y rfl rfl (y_as rfl) ?_
   refine vc_end (vq_then (vc_keep [(4, _)] ⟨rfl, trivial⟩ (vc_ret ?_)))
   refine vq_ret1 st (.inl rfl) Tryd.results45 (.tmp rfl) ?_
   refine ⟨_, rfl, ?_⟩
   refine ⟨?_, st.chg⟩
   rw [sameS_eq]
   clear st
   simp_all
 ·
  intro hg10
  try simp only [dn] at hg10
  iterate 5 refine vc_e (e_skip rfl rfl ?_)
  refine vc_y rfl rfl (y_pickf rfl rfl) ?_
  refine vc_y rfl rfl (y_mv rfl) ?_
  iterate 5 refine vc_e (e_skip rfl rfl ?_)
  refine vc_y rfl rfl (y_pickf rfl rfl) ?_
  refine vc_y rfl rfl (y_mv rfl) ?_
  iterate 5 refine vc_e (e_skip rfl rfl ?_)
  refine vc_y rfl rfl (y_pickf rfl rfl) ?_
  refine vc_y rfl rfl (y_mv rfl) ?_
  iterate 5 refine vc_e (e_skip rfl rfl ?_)
  refine vc_y rfl rfl (y_pickf rfl rfl) ?_
  refine vc_y rfl rfl (y_mv rfl) ?_
  iterate 5 refine vc_e (e_skip rfl rfl ?_)
  refine vc_y rfl rfl (y_pickf rfl rfl) ?_
  refine vc_y rfl rfl (y_as rfl) ?_
  refine vc_end (vq_then (vc_keep [(4, _)] ⟨rfl, trivial⟩ (vc_ret ?_)))
  refine vq_ret1 st (.inl rfl) Tryd.results45 (.tmp rfl) ?_
  refine ⟨_, rfl, ?_⟩
  refine ⟨?_, st.chg⟩
  rw [sameS_eq]
  clear st
  simp_all

set_option maxHeartbeats 1000000 in
theorem pstmts_any : ∀ (n : Nat) (a : List Sm), szo a = n → OkSs a → ∀ (b : List Sm) (oa ob : Option Addr) (ca cb : Nat) (w : World), SmRow w S oa a → SmRow w S ob b →
    Ret Tryd.prog 44 [.slice oa a.length ca, .slice ob b.length cb, .func (.func 45) #[] #[]] w fun v w' => v = .bool (zipA sameS a b) ∧ Chg [] w w' := by
 intro n
 refine Nat.strongRecOn n fun n ih => ?_
 intro a hn hok b oa ob ca cb w hA hB
 subst hn
 have hn := hok.1
 refine ret_of [_, _, _] Tryd.func44 rfl Tryd.ntmps44 rfl ?_
 have st := St.init w []
 obtain ⟨w0, rfl⟩ : ∃ w0, w0 = w := ⟨_, rfl⟩
 refine vc_seq (vc_region ?_)
 refine vc_y rfl rfl (y_as rfl) ?_
 refine vc_end (vq_then (vc_keep [(0, _), (1, _), (2, _)] ⟨rfl, rfl, rfl, trivial⟩ (vc_seq (vc_seq (vc_region ?_)))))
 refine vc_y rfl rfl (y_mv rfl) ?_
 refine vc_y rfl rfl (y_lensl rfl Tryd.underlying76) ?_
 refine vc_y rfl rfl (y_mv rfl) ?_
 refine vc_y rfl rfl (y_lensl rfl Tryd.underlying76) ?_
 refine vc_y rfl rfl (y_nei rfl rfl) ?_
 refine vc_end (vq_then (vc_keep [(0, _), (1, _), (2, _), (12, _)] ⟨rfl, rfl, rfl, rfl, trivial⟩ ?_))
 refine vc_ifs rfl ?_ ?_
 ·
  intro hc12
  try simp only [dn] at hc12
  refine vc_seq (vc_region ?_)
  refine vc_y rfl rfl (y_as rfl) ?_
  refine vc_end (vq_then (vc_keep [(6, _)] ⟨rfl, trivial⟩ (vc_ret (vq_then_ret ?_))))
  refine vq_ret1 st (.inl rfl) Tryd.results44 (.tmp rfl) ?_
  refine ⟨_, rfl, ?_⟩
  refine ⟨?_, st.chg⟩
  rw [zipA_len (by omega)]
 ·
  intro hc12
  try simp only [dn] at hc12
  have hlen : a.length = b.length := by omega
  refine vc_code_skip (vq_then (vc_keep [(0, _), (1, _), (2, _)] ⟨rfl, rfl, rfl, trivial⟩ (vc_seq (vc_seq (vc_region ?_)))))
  refine vc_y rfl rfl (y_mv rfl) ?_
  refine vc_y rfl rfl (y_lensl rfl Tryd.underlying76) ?_
  refine vc_y rfl rfl (y_mv rfl) ?_
  refine vc_end (vq_then (vc_keep [(0, _), (1, _), (2, _), (14, _), (15, _)] ⟨rfl, rfl, rfl, rfl, rfl, trivial⟩ (vc_block ?_)))
  refine vc_loop (w0 := w0) (M := []) (fun (j : Nat) => [(0, .slice oa a.length ca), (1, .slice ob b.length cb), (2, .func (.func 45) #[] #[]), (14, .int .i64 (a.length : Int)), (15, .int .i64 (j : Int))]) (fun _ => []) (fun j _ => j ≤ a.length ∧ ∀ (i : Nat) x y, i < j → a[i]? = some x → b[i]? = some y → sameS x y = true) (fun j => a.length - j) 0 ⟨rfl, rfl, rfl, rfl, rfl, trivial⟩ (st.drop (by repeat (first | exact sl0 | apply sl1 | apply sl2))) ⟨by omega, fun i x y h => by omega⟩ ?_
  clear st
  rintro j w ⟨hj, hall⟩ st
  refine vc_seq (vc_region ?_)
  refine vc_y rfl rfl (y_lss rfl rfl) ?_
  refine vc_end (vq_then (vc_keep [(0, _), (1, _), (2, _), (14, _), (15, _), (16, _)] ⟨rfl, rfl, rfl, rfl, rfl, rfl, trivial⟩ (vc_seq ?_)))
  refine vc_ifs rfl ?_ ?_
  ·
   intro hc16
   try simp only [dn] at hc16
   obtain ⟨x, hx⟩ : ∃ x, a[j]? = some x := ⟨_, List.getElem?_eq_getElem (by omega)⟩
   obtain ⟨y, hy⟩ : ∃ y, b[j]? = some y := ⟨_, List.getElem?_eq_getElem (by omega)⟩
   obtain ⟨gb, go, rfl, hg⟩ := SmRow.gets hA (by omega)
   obtain ⟨fb, fo, rfl, hf⟩ := SmRow.gets hB (by omega)
   obtain ⟨oe, obb, ol, ce, cbb, cl, hc, hse, hsb, hsl⟩ := hg j x hx
   obtain ⟨oe', obb', ol', ce', cbb', cl', hd, hse', hsb', hsl'⟩ := hf j y hy
   have hkx := hok.2 j x hx
   have hz := mem_size hx
   have hB2 : szo x.body < szo a := by
    have : szo x.body < szo x := by cases x; exact sm_size.1
    omega
   have hL2 : szo x.els < szo a := by
    have : szo x.els < szo x := by cases x; exact sm_size.2
    omega
   refine vc_code_skip (vq_then (vc_keep [(0, _), (1, _), (2, _), (14, _), (15, _)] ⟨rfl, rfl, rfl, rfl, rfl, trivial⟩ (vc_seq (vc_block (vc_seq (vc_region ?_))))))
   refine vc_y rfl rfl (y_mv rfl) ?_
   refine vc_y rfl rfl (y_as rfl) ?_
   refine vc_end (vq_then (vc_keep [(0, _), (1, _), (2, _), (7, _), (14, _), (15, _)] ⟨rfl, rfl, rfl, rfl, rfl, rfl, trivial⟩ (vc_seq ?_)))
   refine vc_draw Tryd.mixed [(0, true), (1, true), (2, true), (3, true), (4, true), (5, true), (6, true), (7, true), (8, true), (9, false), (10, true)] (fun w => St _ _ _ w) st (by kernel_rfl) (by repeat (first | exact okQ_noPan | exact okQ_body | exact okQ_bodyS | refine okQ_then ?_ | refine okQ_block ?_)) rfl (by kernel_rfl) ?_
   intro w cd; replace st := st.call0 cd; clear cd
   have hS := st
   iterate 3 refine vp_take rfl rfl rfl hS (fun w st => y_mv rfl) ?_
   refine vp_take rfl rfl rfl hS (fun w st => (by exact y_ia (k := j) rfl rfl Tryd.underlying76 Tryd.sizeOf83 rfl (by omega))) ?_
   refine vp_take rfl rfl rfl hS (fun w st => (by exact y_ldca (smC x oe obb ol ce cbb cl) rfl Tryd.isAgg83 Tryd.sizeOf83 rfl (fun i v hi => st.chg.cell (hc i v hi) (by simp)))) ?_
   iterate 2 refine vp_take rfl rfl rfl hS (fun w st => y_mv rfl) ?_
   refine vp_take rfl rfl rfl hS (fun w st => (by exact y_ia (k := j) rfl rfl Tryd.underlying76 Tryd.sizeOf83 rfl (by omega))) ?_
   refine vp_take rfl rfl rfl hS (fun w st => (by exact y_ldca (smC y oe' obb' ol' ce' cbb' cl') rfl Tryd.isAgg83 Tryd.sizeOf83 rfl (fun i v hi => st.chg.cell (hd i v hi) (by simp)))) ?_
   refine vp_do rfl (e_callv [_, _] rfl rfl rfl Tryd.call45 rfl (psameS_of x y hkx oe obb ol oe' obb' ol' ce cbb cl ce' cbb' cl' _ (hse.kept (Same.of_nil st.chg)) (hsb.kept (Same.of_nil st.chg)) (hsl.kept (Same.of_nil st.chg)) (hse'.kept (Same.of_nil st.chg)) (hsb'.kept (Same.of_nil st.chg)) (hsl'.kept (Same.of_nil st.chg)) (fun w h1 h2 => ih _ hB2 x.body rfl hkx.body y.body _ _ _ _ w h1 h2) (fun w h1 h2 => ih _ hL2 x.els rfl hkx.els y.els _ _ _ _ w h1 h2)) ?_)
   rintro _ w ⟨rfl, cw⟩
   replace st := st.call0 cw
   refine vp_next (by exact st) ?_; intro hS
   refine vp_take rfl rfl rfl hS (fun w st => y_not rfl) ?_
   refine vp_end (vq_then (vc_keep [(0, _), (1, _), (2, _), (14, _), (15, _), (28, _)] ⟨rfl, rfl, rfl, rfl, rfl, rfl, trivial⟩ ?_))
   refine vc_ifs rfl ?_ ?_
   ·
    intro hc28
    try simp only [dn] at hc28
    refine vc_seq (vc_region ?_)
    refine vc_y rfl rfl (y_as rfl) ?_
    refine vc_end (vq_then (vc_keep [(6, _)] ⟨rfl, trivial⟩ (vc_ret (vq_block_ret (vq_then_ret (vq_then_ret (vq_block_ret (vq_then_ret ?_))))))))
    refine vq_ret1 st (.inl rfl) Tryd.results44 (.tmp rfl) ?_
    refine ⟨_, rfl, ?_⟩
    refine ⟨?_, st.chg⟩
    rw [zipA_no hx hy (by assumption)]
   ·
    intro hc28
    try simp only [dn] at hc28
    refine vc_code_skip (vq_block (vq_then (vc_keep [(0, _), (1, _), (2, _), (14, _), (15, _)] ⟨rfl, rfl, rfl, rfl, rfl, trivial⟩ (vc_region ?_))))
    refine vc_y rfl rfl (y_add rfl rfl (by omega : _ = ((j + 1 : Nat) : Int)) (by omega) (by omega)) ?_
    refine vc_y rfl rfl (y_mv rfl) ?_
    refine vc_end ?_
    refine vq_again (j + 1)  ⟨rfl, rfl, rfl, rfl, rfl, trivial⟩ (st.drop (by repeat (first | exact sl0 | apply sl1 | apply sl2))) ?_ ?_
    ·
     exact ⟨by omega, fun i x' y' hi h1 h2 => by
         rcases (by omega : i < j ∨ i = j) with h | rfl
         · exact hall i x' y' h h1 h2
         · rw [hx] at h1; rw [hy] at h2; cases h1; cases h2; assumption⟩
    ·
     omega
  ·
   intro hc16
   try simp only [dn] at hc16
   refine vc_exit (vq_then_exit (vq_then_exit (vq_block_exit (vq_then (vc_keep [] trivial (vc_seq (vc_region ?_)))))))
   refine vc_y rfl rfl (y_as rfl) ?_
   refine vc_end (vq_then (vc_keep [(6, _)] ⟨rfl, trivial⟩ (vc_ret ?_)))
   refine vq_ret1 st (.inl rfl) Tryd.results44 (.tmp rfl) ?_
   refine ⟨_, rfl, ?_⟩
   refine ⟨?_, st.chg⟩
   rw [zipA_yes hlen fun i x y hi h1 h2 => hall i x y (by omega) h1 h2]

theorem psameT_any (x y : Th) (hl : OkD x.locals) (hb : OkSs x.body) (ol ob ol' ob' : Option Addr) (cl cb cl' cb' : Nat) (w : World) (h1 : DcRow w S ol x.locals) (h2 : SmRow w S ob x.body) (h1' : DcRow w S ol' y.locals) (h2' : SmRow w S ob' y.body) :
    Ret Tryd.prog 43 [.agg (thC x ol ob cl cb).toArray, .agg (thC y ol' ob' cl' cb').toArray] w fun v w' => v = .bool (sameT x y) ∧ Chg [] w w' := by
 refine ret_of [_, _] Tryd.func43 rfl Tryd.ntmps43 rfl ?_
 have st := St.init w []
 obtain ⟨w0, rfl⟩ : ∃ w0, w0 = w := ⟨_, rfl⟩
 refine vc_seq (vc_region ?_)
 refine vc_e (e_bx (l := [_, _, _, _]) st rfl rfl rfl rfl ?_)
 intro b2 w hb2 st
 refine vc_e (e_bx (l := [_, _, _, _]) st rfl rfl rfl rfl ?_)
 intro b3 w hb3 st
 refine vc_y rfl rfl (y_as rfl) ?_
 refine vc_end (vq_then (vc_keep [(2, _), (3, _)] ⟨rfl, rfl, trivial⟩ (vc_seq (vc_region ?_))))
 refine vc_y rfl rfl (y_fa0 rfl Tryd.underlying78 rfl rfl Tryd.sizeOf9 rfl) ?_
 refine vc_y rfl rfl ((by exact y_ld st 1 rfl Tryd.isAgg9 rfl rfl)) ?_
 refine vc_y rfl rfl (y_fa0 rfl Tryd.underlying78 rfl rfl Tryd.sizeOf9 rfl) ?_
 refine vc_y rfl rfl ((by exact y_ld st 0 rfl Tryd.isAgg9 rfl rfl)) ?_
 refine vc_y rfl rfl (y_eqs rfl rfl) ?_
 refine vc_e (e_mvb rfl rfl rfl ?_ ?_)
 ·
  intro hg10
  try simp only [dn] at hg10
  refine vc_y rfl rfl ((by exact y_faz (k := 1) rfl Tryd.underlying78 rfl rfl Tryd.sizeOf41 rfl)) ?_
  refine vc_y rfl rfl ((by exact y_ld st 1 rfl Tryd.isAgg41 rfl rfl)) ?_
  refine vc_y rfl rfl ((by exact y_faz (k := 1) rfl Tryd.underlying78 rfl rfl Tryd.sizeOf41 rfl)) ?_
  refine vc_y rfl rfl ((by exact y_ld st 0 rfl Tryd.isAgg41 rfl rfl)) ?_
  refine vc_e (e_call [_, _, _] rfl rfl Tryd.call40 rfl (pdecls_any x.locals y.locals _ _ _ _ _ (RowC.kept h1 (Same.of_nil st.chg)) (RowC.kept h1' (Same.of_nil st.chg)) hl.1) ?_)
  rintro _ w ⟨rfl, cw⟩
  replace st := st.call0 cw
  refine vc_y rfl rfl (y_pickt rfl rfl) ?_
  refine vc_e (e_mvb rfl rfl rfl ?_ ?_)
  ·
   intro hg17
   try simp only [dn] at hg17
   refine vc_y rfl rfl ((by exact y_faz (k := 2) rfl Tryd.underlying78 rfl rfl Tryd.sizeOf76 rfl)) ?_
   refine vc_y rfl rfl ((by exact y_ld st 1 rfl Tryd.isAgg76 rfl rfl)) ?_
   refine vc_y rfl rfl ((by exact y_faz (k := 2) rfl Tryd.underlying78 rfl rfl Tryd.sizeOf76 rfl)) ?_
   refine vc_y rfl rfl ((by exact y_ld st 0 rfl Tryd.isAgg76 rfl rfl)) ?_
   refine vc_e (e_call [_, _, _] rfl rfl Tryd.call44 rfl (pstmts_any _ x.body rfl hb y.body _ _ _ _ _ (h2.kept (Same.of_nil st.chg)) (h2'.kept (Same.of_nil st.chg))) ?_)
   rintro _ w ⟨rfl, cw⟩
   replace st := st.call0 cw
   refine vc_y rfl rfl (y_pickt rfl rfl) ?_
   refine vc_y rfl rfl (y_as rfl) ?_
   refine vc_end (vq_then (vc_keep [(4, _)] ⟨rfl, trivial⟩ (vc_ret ?_)))
   refine vq_ret1 st (.inl rfl) Tryd.results43 (.tmp rfl) ?_
   refine ⟨_, rfl, ?_⟩
   refine ⟨?_, st.chg⟩
   unfold sameT
   clear st
   simp_all
  ·
   intro hg17
   try simp only [dn] at hg17
   iterate 5 refine vc_e (e_skip rfl rfl ?_)
   refine vc_y rfl rfl (y_pickf rfl rfl) ?_
   refine vc_y rfl rfl (y_as rfl) ?_
   refine vc_end (vq_then (vc_keep [(4, _)] ⟨rfl, trivial⟩ (vc_ret ?_)))
   refine vq_ret1 st (.inl rfl) Tryd.results43 (.tmp rfl) ?_
   refine ⟨_, rfl, ?_⟩
   refine ⟨?_, st.chg⟩
   unfold sameT
   clear st
   simp_all
 ·
  intro hg10
  try simp only [dn] at hg10
  iterate 5 refine vc_e (e_skip rfl rfl ?_)
  refine vc_y rfl rfl (y_pickf rfl rfl) ?_
  refine vc_y rfl rfl (y_mv rfl) ?_
  iterate 5 refine vc_e (e_skip rfl rfl ?_)
  refine vc_y rfl rfl (y_pickf rfl rfl) ?_
  refine vc_y rfl rfl (y_as rfl) ?_
  refine vc_end (vq_then (vc_keep [(4, _)] ⟨rfl, trivial⟩ (vc_ret ?_)))
  refine vq_ret1 st (.inl rfl) Tryd.results43 (.tmp rfl) ?_
  refine ⟨_, rfl, ?_⟩
  refine ⟨?_, st.chg⟩
  unfold sameT
  clear st
  simp_all

theorem pthreads_any (a b : List Th) (hok : OkT a) (oa ob : Option Addr) (ca cb : Nat) (w : World) (hA : ThRow w S oa a) (hB : ThRow w S ob b) (hn : a.length ≤ 1099511627776) :
    Ret Tryd.prog 42 [.slice oa a.length ca, .slice ob b.length cb, .func (.func 43) #[] #[]] w fun v w' => v = .bool (zipA sameT a b) ∧ Chg [] w w' := by
 refine ret_of [_, _, _] Tryd.func42 rfl Tryd.ntmps42 rfl ?_
 have st := St.init w []
 obtain ⟨w0, rfl⟩ : ∃ w0, w0 = w := ⟨_, rfl⟩
 refine vc_seq (vc_region ?_)
 refine vc_y rfl rfl (y_as rfl) ?_
 refine vc_end (vq_then (vc_keep [(0, _), (1, _), (2, _)] ⟨rfl, rfl, rfl, trivial⟩ (vc_seq (vc_seq (vc_region ?_)))))
 refine vc_y rfl rfl (y_mv rfl) ?_
 refine vc_y rfl rfl (y_lensl rfl Tryd.underlying42) ?_
 refine vc_y rfl rfl (y_mv rfl) ?_
 refine vc_y rfl rfl (y_lensl rfl Tryd.underlying42) ?_
 refine vc_y rfl rfl (y_nei rfl rfl) ?_
 refine vc_end (vq_then (vc_keep [(0, _), (1, _), (2, _), (12, _)] ⟨rfl, rfl, rfl, rfl, trivial⟩ ?_))
 refine vc_ifs rfl ?_ ?_
 ·
  intro hc12
  try simp only [dn] at hc12
  refine vc_seq (vc_region ?_)
  refine vc_y rfl rfl (y_as rfl) ?_
  refine vc_end (vq_then (vc_keep [(6, _)] ⟨rfl, trivial⟩ (vc_ret (vq_then_ret ?_))))
  refine vq_ret1 st (.inl rfl) Tryd.results42 (.tmp rfl) ?_
  refine ⟨_, rfl, ?_⟩
  refine ⟨?_, st.chg⟩
  rw [zipA_len (by omega)]
 ·
  intro hc12
  try simp only [dn] at hc12
  have hlen : a.length = b.length := by omega
  refine vc_code_skip (vq_then (vc_keep [(0, _), (1, _), (2, _)] ⟨rfl, rfl, rfl, trivial⟩ (vc_seq (vc_seq (vc_region ?_)))))
  refine vc_y rfl rfl (y_mv rfl) ?_
  refine vc_y rfl rfl (y_lensl rfl Tryd.underlying42) ?_
  refine vc_y rfl rfl (y_mv rfl) ?_
  refine vc_end (vq_then (vc_keep [(0, _), (1, _), (2, _), (14, _), (15, _)] ⟨rfl, rfl, rfl, rfl, rfl, trivial⟩ (vc_block ?_)))
  refine vc_loop (w0 := w0) (M := []) (fun (j : Nat) => [(0, .slice oa a.length ca), (1, .slice ob b.length cb), (2, .func (.func 43) #[] #[]), (14, .int .i64 (a.length : Int)), (15, .int .i64 (j : Int))]) (fun _ => []) (fun j _ => j ≤ a.length ∧ ∀ (i : Nat) x y, i < j → a[i]? = some x → b[i]? = some y → sameT x y = true) (fun j => a.length - j) 0 ⟨rfl, rfl, rfl, rfl, rfl, trivial⟩ (st.drop (by repeat (first | exact sl0 | apply sl1 | apply sl2))) ⟨by omega, fun i x y h => by omega⟩ ?_
  clear st
  rintro j w ⟨hj, hall⟩ st
  refine vc_seq (vc_region ?_)
  refine vc_y rfl rfl (y_lss rfl rfl) ?_
  refine vc_end (vq_then (vc_keep [(0, _), (1, _), (2, _), (14, _), (15, _), (16, _)] ⟨rfl, rfl, rfl, rfl, rfl, rfl, trivial⟩ (vc_seq ?_)))
  refine vc_ifs rfl ?_ ?_
  ·
   intro hc16
   try simp only [dn] at hc16
   obtain ⟨x, hx⟩ : ∃ x, a[j]? = some x := ⟨_, List.getElem?_eq_getElem (by omega)⟩
   obtain ⟨y, hy⟩ : ∃ y, b[j]? = some y := ⟨_, List.getElem?_eq_getElem (by omega)⟩
   obtain ⟨gb, go, rfl, hg⟩ := ThRow.gets hA (by omega)
   obtain ⟨fb, fo, rfl, hf⟩ := ThRow.gets hB (by omega)
   obtain ⟨ol, ob, cl, cb1, hc, hd1, hs1⟩ := hg j x hx
   obtain ⟨ol', ob', cl', cb', hd, hd2, hs2⟩ := hf j y hy
   have hkx := hok.2 j x hx
   refine vc_code_skip (vq_then (vc_keep [(0, _), (1, _), (2, _), (14, _), (15, _)] ⟨rfl, rfl, rfl, rfl, rfl, trivial⟩ (vc_seq (vc_block (vc_seq (vc_region ?_))))))
   refine vc_y rfl rfl (y_mv rfl) ?_
   refine vc_y rfl rfl (y_as rfl) ?_
   refine vc_end (vq_then (vc_keep [(0, _), (1, _), (2, _), (7, _), (14, _), (15, _)] ⟨rfl, rfl, rfl, rfl, rfl, rfl, trivial⟩ (vc_seq ?_)))
   refine vc_draw Tryd.mixed [(0, true), (1, true), (2, true), (3, true), (4, true), (5, true), (6, true), (7, true), (8, true), (9, false), (10, true)] (fun w => St _ _ _ w) st (by kernel_rfl) (by repeat (first | exact okQ_noPan | exact okQ_body | exact okQ_bodyS | refine okQ_then ?_ | refine okQ_block ?_)) rfl (by kernel_rfl) ?_
   intro w cd; replace st := st.call0 cd; clear cd
   have hS := st
   iterate 3 refine vp_take rfl rfl rfl hS (fun w st => y_mv rfl) ?_
   refine vp_take rfl rfl rfl hS (fun w st => (by exact y_ia (k := j) rfl rfl Tryd.underlying42 Tryd.sizeOf78 rfl (by omega))) ?_
   refine vp_take rfl rfl rfl hS (fun w st => (by exact y_ldca (thC x ol ob cl cb1) rfl Tryd.isAgg78 Tryd.sizeOf78 rfl (fun i v hi => st.chg.cell (hc i v hi) (by simp)))) ?_
   iterate 2 refine vp_take rfl rfl rfl hS (fun w st => y_mv rfl) ?_
   refine vp_take rfl rfl rfl hS (fun w st => (by exact y_ia (k := j) rfl rfl Tryd.underlying42 Tryd.sizeOf78 rfl (by omega))) ?_
   refine vp_take rfl rfl rfl hS (fun w st => (by exact y_ldca (thC y ol' ob' cl' cb') rfl Tryd.isAgg78 Tryd.sizeOf78 rfl (fun i v hi => st.chg.cell (hd i v hi) (by simp)))) ?_
   refine vp_do rfl (e_callv [_, _] rfl rfl rfl Tryd.call43 rfl (psameT_any x y hkx.1 hkx.2.1 _ _ _ _ _ _ _ _ _ (RowC.kept hd1 (Same.of_nil st.chg)) (hs1.kept (Same.of_nil st.chg)) (RowC.kept hd2 (Same.of_nil st.chg)) (hs2.kept (Same.of_nil st.chg))) ?_)
   rintro _ w ⟨rfl, cw⟩
   replace st := st.call0 cw
   refine vp_next (by exact st) ?_; intro hS
   refine vp_take rfl rfl rfl hS (fun w st => y_not rfl) ?_
   refine vp_end (vq_then (vc_keep [(0, _), (1, _), (2, _), (14, _), (15, _), (28, _)] ⟨rfl, rfl, rfl, rfl, rfl, rfl, trivial⟩ ?_))
   refine vc_ifs rfl ?_ ?_
   ·
    intro hc28
    try simp only [dn] at hc28
    refine vc_seq (vc_region ?_)
    refine vc_y rfl rfl (y_as rfl) ?_
    refine vc_end (vq_then (vc_keep [(6, _)] ⟨rfl, trivial⟩ (vc_ret (vq_block_ret (vq_then_ret (vq_then_ret (vq_block_ret (vq_then_ret ?_))))))))
    refine vq_ret1 st (.inl rfl) Tryd.results42 (.tmp rfl) ?_
    refine ⟨_, rfl, ?_⟩
    refine ⟨?_, st.chg⟩
    rw [zipA_no hx hy (by assumption)]
   ·
    intro hc28
    try simp only [dn] at hc28
    refine vc_code_skip (vq_block (vq_then (vc_keep [(0, _), (1, _), (2, _), (14, _), (15, _)] ⟨rfl, rfl, rfl, rfl, rfl, trivial⟩ (vc_region ?_))))
    refine vc_y rfl rfl (y_add rfl rfl (by omega : _ = ((j + 1 : Nat) : Int)) (by omega) (by omega)) ?_
    refine vc_y rfl rfl (y_mv rfl) ?_
    refine vc_end ?_
    refine vq_again (j + 1)  ⟨rfl, rfl, rfl, rfl, rfl, trivial⟩ (st.drop (by repeat (first | exact sl0 | apply sl1 | apply sl2))) ?_ ?_
    ·
     exact ⟨by omega, fun i x' y' hi h1 h2 => by
         rcases (by omega : i < j ∨ i = j) with h | rfl
         · exact hall i x' y' h h1 h2
         · rw [hx] at h1; rw [hy] at h2; cases h1; cases h2; assumption⟩
    ·
     omega
  ·
   intro hc16
   try simp only [dn] at hc16
   refine vc_exit (vq_then_exit (vq_then_exit (vq_block_exit (vq_then (vc_keep [] trivial (vc_seq (vc_region ?_)))))))
   refine vc_y rfl rfl (y_as rfl) ?_
   refine vc_end (vq_then (vc_keep [(6, _)] ⟨rfl, trivial⟩ (vc_ret ?_)))
   refine vq_ret1 st (.inl rfl) Tryd.results42 (.tmp rfl) ?_
   refine ⟨_, rfl, ?_⟩
   refine ⟨?_, st.chg⟩
   rw [zipA_yes hlen fun i x y hi h1 h2 => hall i x y (by omega) h1 h2]

theorem psameP_any (p q : Pg) (hok : OkP p) (os ol ot os' ol' ot' : Option Addr) (cs cl ct cs' cl' ct' : Nat) (w : World) (hSh : DcRow w S os p.shared) (hL : DcRow w S ol p.locks) (hT : ThRow w S ot p.threads) (hSh' : DcRow w S os' q.shared) (hL' : DcRow w S ol' q.locks) (hT' : ThRow w S ot' q.threads) :
    Ret Tryd.prog 18 [.agg (pgC p os ol ot cs cl ct).toArray, .agg (pgC q os' ol' ot' cs' cl' ct').toArray] w fun v w' => v = .bool (sameP p q) ∧ Chg [] w w' := by
 refine ret_of [_, _] Tryd.func18 rfl Tryd.ntmps18 rfl ?_
 have st := St.init w []
 obtain ⟨w0, rfl⟩ : ∃ w0, w0 = w := ⟨_, rfl⟩
 refine vc_seq (vc_region ?_)
 refine vc_e (e_bx (l := [_, _, _]) st rfl rfl rfl rfl ?_)
 intro b2 w hb2 st
 refine vc_e (e_bx (l := [_, _, _]) st rfl rfl rfl rfl ?_)
 intro b3 w hb3 st
 refine vc_y rfl rfl (y_as rfl) ?_
 refine vc_end (vq_then (vc_keep [(2, _), (3, _)] ⟨rfl, rfl, trivial⟩ (vc_seq (vc_seq (vc_region ?_)))))
 refine vc_y rfl rfl (y_fa0 rfl Tryd.underlying44 rfl rfl Tryd.sizeOf41 rfl) ?_
 refine vc_y rfl rfl ((by exact y_ld st 1 rfl Tryd.isAgg41 rfl rfl)) ?_
 refine vc_y rfl rfl (y_fa0 rfl Tryd.underlying44 rfl rfl Tryd.sizeOf41 rfl) ?_
 refine vc_y rfl rfl ((by exact y_ld st 0 rfl Tryd.isAgg41 rfl rfl)) ?_
 refine vc_e (e_call [_, _, _] rfl rfl Tryd.call40 rfl (pdecls_any p.shared q.shared _ _ _ _ _ (RowC.kept hSh (Same.of_nil st.chg)) (RowC.kept hSh' (Same.of_nil st.chg)) hok.1.1) ?_)
 rintro _ w ⟨rfl, cw⟩
 replace st := st.call0 cw
 refine vc_y rfl rfl (y_not rfl) ?_
 refine vc_e (e_mvb rfl rfl rfl ?_ ?_)
 ·
  intro hg11
  try simp only [dn] at hg11
  iterate 6 refine vc_e (e_skip rfl rfl ?_)
  refine vc_y rfl rfl (y_pickt rfl rfl) ?_
  refine vc_end (vq_then (vc_keep [(2, _), (3, _), (18, _)] ⟨rfl, rfl, rfl, trivial⟩ ?_))
  refine vc_ift rfl ?_
  refine vc_seq (vc_region ?_)
  refine vc_y rfl rfl (y_as rfl) ?_
  refine vc_end (vq_then (vc_keep [(4, _)] ⟨rfl, trivial⟩ (vc_ret (vq_then_ret ?_))))
  refine vq_ret1 st (.inl rfl) Tryd.results18 (.tmp rfl) ?_
  refine ⟨_, rfl, ?_⟩
  refine ⟨?_, st.chg⟩
  unfold sameP
  clear st
  simp_all
 ·
  intro hg11
  try simp only [dn] at hg11
  refine vc_y rfl rfl ((by exact y_faz (k := 1) rfl Tryd.underlying44 rfl rfl Tryd.sizeOf41 rfl)) ?_
  refine vc_y rfl rfl ((by exact y_ld st 1 rfl Tryd.isAgg41 rfl rfl)) ?_
  refine vc_y rfl rfl ((by exact y_faz (k := 1) rfl Tryd.underlying44 rfl rfl Tryd.sizeOf41 rfl)) ?_
  refine vc_y rfl rfl ((by exact y_ld st 0 rfl Tryd.isAgg41 rfl rfl)) ?_
  refine vc_e (e_call [_, _, _] rfl rfl Tryd.call40 rfl (pdecls_any p.locks q.locks _ _ _ _ _ (RowC.kept hL (Same.of_nil st.chg)) (RowC.kept hL' (Same.of_nil st.chg)) hok.2.1.1) ?_)
  rintro _ w ⟨rfl, cw⟩
  replace st := st.call0 cw
  refine vc_y rfl rfl (y_not rfl) ?_
  refine vc_y rfl rfl (y_pickf rfl rfl) ?_
  refine vc_end (vq_then (vc_keep [(2, _), (3, _), (18, _)] ⟨rfl, rfl, rfl, trivial⟩ ?_))
  refine vc_ifs rfl ?_ ?_
  ·
   intro hc18
   try simp only [dn] at hc18
   refine vc_seq (vc_region ?_)
   refine vc_y rfl rfl (y_as rfl) ?_
   refine vc_end (vq_then (vc_keep [(4, _)] ⟨rfl, trivial⟩ (vc_ret (vq_then_ret ?_))))
   refine vq_ret1 st (.inl rfl) Tryd.results18 (.tmp rfl) ?_
   refine ⟨_, rfl, ?_⟩
   refine ⟨?_, st.chg⟩
   unfold sameP
   clear st
   simp_all
  ·
   intro hc18
   try simp only [dn] at hc18
   refine vc_code_skip (vq_then (vc_keep [(2, _), (3, _)] ⟨rfl, rfl, trivial⟩ (vc_seq (vc_region ?_))))
   refine vc_y rfl rfl ((by exact y_faz (k := 2) rfl Tryd.underlying44 rfl rfl Tryd.sizeOf42 rfl)) ?_
   refine vc_y rfl rfl ((by exact y_ld st 1 rfl Tryd.isAgg42 rfl rfl)) ?_
   refine vc_y rfl rfl ((by exact y_faz (k := 2) rfl Tryd.underlying44 rfl rfl Tryd.sizeOf42 rfl)) ?_
   refine vc_y rfl rfl ((by exact y_ld st 0 rfl Tryd.isAgg42 rfl rfl)) ?_
   refine vc_e (e_call [_, _, _] rfl rfl Tryd.call42 rfl (pthreads_any p.threads q.threads hok.2.2 _ _ _ _ _ (hT.kept (Same.of_nil st.chg)) (hT'.kept (Same.of_nil st.chg)) hok.2.2.1) ?_)
   rintro _ w ⟨rfl, cw⟩
   replace st := st.call0 cw
   refine vc_y rfl rfl (y_as rfl) ?_
   refine vc_end (vq_then (vc_keep [(4, _)] ⟨rfl, trivial⟩ (vc_ret ?_)))
   refine vq_ret1 st (.inl rfl) Tryd.results18 (.tmp rfl) ?_
   refine ⟨_, rfl, ?_⟩
   refine ⟨?_, st.chg⟩
   unfold sameP
   clear st
   simp_all

end
end Go.Proofs.YtggnfanphcaamaaDoor


namespace Go.Proofs.YtggnfanphcaamaaDoor
open Go.RowKit Sx LexS
set_option linter.unusedVariables false
set_option linter.unusedSimpArgs false
theorem fields80 : (Tryd.prog.fieldsOf 80).toList.map (fun f => (f.name, f.type, f.offset)) = [("Name", 9, 0), ("Word", 2, 1), ("At", 3, 2)] := by kernel_rfl
theorem eqFields80 (p q : Dc) (w : World) : (Op.eqFields 9999 (dcL p).toArray (dcL q).toArray (Tryd.prog.fieldsOf 80).toList).run Tryd.prog w = .ok (eqD p q) w := by
  have h := fields80
  match hf : (Tryd.prog.fieldsOf 80).toList with
  | [a, b, c] =>
    rw [hf] at h
    simp only [List.map_cons, List.map_nil, List.cons.injEq, Prod.mk.injEq, and_true] at h
    obtain ⟨⟨a1, a2, a3⟩, ⟨b1, b2, b3⟩, c1, c2, c3⟩ := h
    have e1 : ∀ (x : Dc) w, (part 9 (dcL x).toArray 0).run Tryd.prog w = .ok (str x.nm) w := fun x w => run_part1 Tryd.isAgg9 rfl
    have e2 : ∀ (x : Dc) w, (part 2 (dcL x).toArray 1).run Tryd.prog w = .ok (.int .i64 x.wd) w := fun x w => run_part1 Tryd.isAgg2 rfl
    have e3 : ∀ (x : Dc) w, (part 3 (dcL x).toArray 2).run Tryd.prog w = .ok (.int .i64 x.a) w := fun x w => run_part1 Tryd.isAgg3 rfl
    have r1 := run_equalIn_string (P := Tryd.prog) w 9998 9 ⟨p.nm.toArray⟩ ⟨q.nm.toArray⟩ Tryd.underlying9
    have r2 := run_equalIn_int (P := Tryd.prog) w 9998 2 .i64 .i64 p.wd q.wd Tryd.underlying2
    have r3 := run_equalIn_int (P := Tryd.prog) w 9998 3 .i64 .i64 p.a q.a Tryd.underlying3
    simp only [str_toList] at r1
    simp only [Op.eqFields, a1, a2, a3, b1, b2, b3, c1, c2, c3, Sem.run_bind, Sem.run_ite, e1, e2, e3, Result.andThen_ok]
    simp only [ne_eq, String.reduceEq, not_false_eq_true, if_true, Sem.run_bind, Sem.run_ite, e1, e2, e3, r1, r2, r3, Result.andThen_ok, Sem.run_pure]
    unfold eqD
    by_cases h1 : p.nm = q.nm
    · by_cases h2 : p.wd = q.wd
      · by_cases h3 : p.a = q.a <;> simp [h1, h2, h3]
      · simp [h1, h2]
    · simp [h1]
  | [] => rw [hf] at h; simp at h
  | [_] => rw [hf] at h; simp at h
  | [_, _] => rw [hf] at h; simp at h
  | _ :: _ :: _ :: _ :: _ => rw [hf] at h; simp at h
section
variable {n : Fr} {kn : Kn} {w : World} {d ty : Nat} {pos : String} {aft : Array Edge} {g : Option (Nat × Bool)}
theorem y_neD {U : Nat} {x y : Operand} {p q : Dc} (hx : evO kn x = some (.agg (dcL p).toArray)) (hy : evO kn y = some (.agg (dcL q).toArray)) : Y Tryd.prog n kn w ⟨some d, .binOp .neq 80 x y U, ty, pos, aft, g⟩ (.bool (!eqD p q)) :=
  y_bo hx hy (by
    have h1 := run_eqGuard_agg (P := Tryd.prog) w .neq 80 x y (dcL p).toArray (dcL q).toArray (by kernel_rfl)
    have h2 := run_neq_struct (P := Tryd.prog) w 80 (dcL p).toArray (dcL q).toArray
    rw [run_equalIn_agg w 9999 80 _ _ (by kernel_rfl) (by kernel_rfl), eqFields80] at h2
    simp only [Sem.run_bind, h1, Result.andThen_ok]
    have h3 : (binOp .neq 80 (.agg (dcL p).toArray) (.agg (dcL q).toArray)).run Tryd.prog w = .ok (.bool (!eqD p q)) w := by rw [h2]; rfl
    exact h3)
end
end Go.Proofs.YtggnfanphcaamaaDoor

