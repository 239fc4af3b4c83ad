/- A part of the proof: contracts of functions and plain laws; each theorem says its own conditions. -/
import Derived.Test.YtggnfanphcaamaaDoorK5
import Derived.Test.YtggnfanphcaamaaDoorK13
import Derived.Test.YtggnfanphcaamaaDoorK15
import Derived.Test.YtggnfanphcaamaaDoorK4
import Derived.Test.YtggnfanphcaamaaDoorK2
import Derived.Test.YtggnfanphcaamaaDoorK1
import Derived.Test.YtggnfanphcaamaaDoorK3
import Derived.Test.YtggnfanphcaamaaDoorK0
import Derived.Test.YtggnfanphcaamaaDoorK7
namespace Go.Proofs.YtggnfanphcaamaaDoor
open Go.RowKit Sx LexS ParS
set_option linter.unusedVariables false
set_option linter.unusedSimpArgs false
/-- a reader at a text's beginning -/
structure RNew (s : List UInt8) (n : Nat) (c : RCtx) (w' : World) : Prop where
  ts : c.ts = (front s).1
  e : c.e = s.length
  n0 : c.n0 = c.rb
  own : w'.ownsRow n 53 4 (.slice c.oa c.ts.length c.cap) c.ts.length (toksL c.ts)
  at_ : RAt c ⟨c.ts, (0, 0)⟩ w'
  le : n ≤ c.rb
  lt : ∀ b ∈ obk c.oa, b < c.rb
  slen : s.length ≤ 65536
theorem RNew.ok {s : List UInt8} {n base : Nat} {c : RCtx} {σ : RS} {w w' : World} (h : RNew s n c w) (hrow : w'.ownsRow base 53 4 (.slice c.oa c.ts.length c.cap) c.ts.length (toksL c.ts)) (hp : RAt c σ w') : RCok c w' := by
  obtain ⟨hlen, hok⟩ := front_ok (s := s) (T := (front s).1) (f := (front s).2) rfl
  have hsc := scan_right (front s).1 s 0 (front s).2 rfl
  rw [← h.ts] at hlen hok hsc
  have := h.slen
  refine ⟨?_, by rw [h.n0]; exact Nat.le_refl _, by omega, by rw [h.e]; omega, by rw [h.n0]; exact Nat.le_of_lt (Array.getElem?_eq_some_iff.1 hp).1, fun t ht => (hok t ht).2.1, fun t ht hk => ?_⟩
  · refine (rowC_own (S := (· < c.n0)) (owns_mono hrow (fun b _ => Nat.zero_le _)) (fun b hb => by rw [h.n0]; exact h.lt b hb)).imp id fun ⟨g, off, e1, hb, hl, hc⟩ => ⟨g, off, e1, hb, hl, fun j hj => ?_⟩
    have := hc j hj
    dsimp only at this
    rw [toks_chunk (List.getElem?_eq_getElem hj)] at this
    simpa only [List.getD, List.getElem?_eq_getElem hj, Option.getD_some] using this
  · have h1 := hsc t ht
    rw [rgt_doc, hk] at h1
    unfold docRight at h1
    simp at h1
    exact h1.1
def RBegun (s : List UInt8) (w : World) (v : Value) (w' : World) : Prop := Chg [] w w' ∧
  ((65536 < s.length ∧ v = .tuple #[.pointer none, .int .i64 4, .agg #[.int .i64 0, .int .i64 0]]) ∨
   (s.length ≤ 65536 ∧ ∃ rule p : Nat, (front s).2 = some (rule, p) ∧ v = .tuple #[.pointer none, .int .i64 30, .agg #[.int .i64 (p : Int), .int .i64 1]]) ∨
   (s.length ≤ 65536 ∧ (front s).2 = none ∧ ∃ c, RNew s w.heap.size c w' ∧ v = .tuple #[.pointer (some ⟨c.rb, 0, none⟩), .int .i64 0, .agg #[.int .i64 0, .int .i64 0]]))
theorem _root_.Sx.St.rnew {s : List UInt8} {c : RCtx} {w w' w0 : World} {M : List Nat} {hs : List Res} (st : St w0 M hs w) (ch : Chg [] w w') (h : RNew s w.heap.size c w') :
    St w0 M (.blk c.rb (.cells (rcell c ⟨c.ts, (0, 0)⟩).toArray c.T (0, 0)) :: .own (.slice c.oa c.ts.length c.cap) 53 4 c.ts.length (toksL c.ts) :: hs) w' :=
  st.push2 ch h.at_ (ownsRow_base h.own st.chg.size) (by simpa [Res.at?] using h.le) (fun k hk => (World.ownsRow.lt h.own k (by simpa [Res.at?] using hk)).1)
    (fun k hk => by
      simp only [Res.at?, List.mem_singleton] at hk
      subst hk
      intro hk'
      simp only [Res.at?, obk_own] at hk'
      exact absurd (h.lt _ hk') (Nat.lt_irrefl _))

theorem rbegun_any (s : List UInt8) (w : World) : Ret Tryd.prog 31 [str s] w (RBegun s w) := by
  refine ret_of [_] Tryd.func31 rfl Tryd.ntmps31 rfl ?_
  have st := St.init w []
  obtain ⟨w0, rfl⟩ : ∃ w0, w0 = w := ⟨_, rfl⟩
  refine vc_seq ?_
  refine vc_region ?_
  refine vc_y rfl rfl (y_as rfl) ?_
  refine vc_y rfl rfl (y_as rfl) ?_
  refine vc_e (e_al (l := [_, _]) st rfl rfl Tryd.zeroValue29 rfl ?_)
  intro b4 w hb4 st
  refine vc_end ?_
  refine vq_then ?_
  refine vc_keep [(0, _), (4, _)] ⟨rfl, rfl, trivial⟩ ?_
  refine vc_seq ?_
  refine vc_seq ?_
  refine vc_region ?_
  refine vc_y rfl rfl (y_mv rfl) ?_
  refine vc_y rfl rfl (y_lens rfl Tryd.underlying9) ?_
  refine vc_y rfl rfl (y_gtr rfl rfl) ?_
  refine vc_end ?_
  refine vq_then ?_
  refine vc_keep [(0, _), (4, _), (10, _)] ⟨rfl, rfl, rfl, trivial⟩ ?_
  refine vc_ifs rfl ?_ ?_
  · intro hc10
    try simp only [dn] at hc10
    have hsl : 65536 < s.length := by omega
    refine vc_seq ?_
    refine vc_region ?_
    refine vc_y rfl rfl (y_bld (.agg #[_, _]) [] rfl (fun w => by simp [Instr.build, go_sem] <;> repeat' constructor)) ?_
    refine vc_y rfl rfl (y_as rfl) ?_
    refine vc_y rfl rfl (y_as rfl) ?_
    refine vc_e (e_sts (vs := [_, _]) st 0 rfl rfl rfl rfl rfl Tryd.sizeOf29 rfl rfl (by first | (right; assumption) | (left; simp)) ?_)
    intro w st; dsimp only [setNth, wr] at st
    refine vc_end ?_
    refine vq_then ?_
    refine vc_keep [(2, _), (3, _), (4, _)] ⟨rfl, rfl, rfl, trivial⟩ ?_
    refine vc_ret ?_
    refine vq_then_ret ?_
    refine vq_ret3 st (.inl rfl) Tryd.results31 (.tmp rfl) (.tmp rfl) (by exact .cell 0 rfl rfl Tryd.isAgg29 Tryd.sizeOf29) ?_
    refine ⟨_, rfl, ?_⟩
    exact ⟨st.chg, .inl ⟨hsl, rfl⟩⟩
  · intro hc10
    try simp only [dn] at hc10
    have hsl : s.length ≤ 65536 := by omega
    refine vc_code_skip ?_
    refine vq_then ?_
    refine vc_keep [(0, _), (4, _)] ⟨rfl, rfl, trivial⟩ ?_
    refine vc_seq ?_
    refine vc_region ?_
    refine vc_y rfl rfl (y_mv rfl) ?_
    refine vc_e (e_call [_] rfl rfl Tryd.call62 rfl (rscan_any s _) ?_)
    rintro _ w ⟨cw, to, tc, rfl, hown⟩
    replace st := St.pushOwn st cw hown
    obtain ⟨T, e, pl, ru, hT⟩ : ∃ T e pl ru, scanRes s = (T, e, pl, ru) := ⟨_, _, _, _, rfl⟩
    rw [hT] at st hown ⊢
    dsimp only at st hown ⊢
    refine vc_y rfl rfl (y_mv rfl) ?_
    refine vc_y rfl rfl (y_ext rfl rfl) ?_
    refine vc_y rfl rfl (y_ext rfl rfl) ?_
    refine vc_y rfl rfl (y_ext rfl rfl) ?_
    refine vc_e (e_al (l := [_, _]) st rfl rfl Tryd.zeroValue29 rfl ?_)
    intro b7 w hb7 st
    refine vc_y rfl rfl (y_as rfl) ?_
    refine vc_y rfl rfl (y_as rfl) ?_
    refine vc_e (e_sts (vs := [_, _]) st 0 rfl rfl rfl rfl rfl Tryd.sizeOf29 rfl rfl (by first | (right; assumption) | (left; simp)) ?_)
    intro w st; dsimp only [setNth, wr] at st
    refine vc_end ?_
    refine vq_then ?_
    refine vc_keep [(0, _), (4, _), (5, _), (6, _), (7, _)] ⟨rfl, rfl, rfl, rfl, rfl, trivial⟩ ?_
    refine vc_seq ?_
    refine vc_seq ?_
    refine vc_region ?_
    refine vc_y rfl rfl (y_mv rfl) ?_
    refine vc_y rfl rfl (y_nei rfl rfl) ?_
    refine vc_end ?_
    refine vq_then ?_
    refine vc_keep [(0, _), (4, _), (5, _), (7, _), (19, _)] ⟨rfl, rfl, rfl, rfl, rfl, trivial⟩ ?_
    refine vc_ifs rfl ?_ ?_
    · intro hc19
      try simp only [dn] at hc19
      have hsc : (front s).2 = some (ru, pl) := by
        unfold scanRes at hT
        rw [if_neg (by omega)] at hT
        split at hT
        · simp only [Prod.mk.injEq] at hT; omega
        · rename_i hf; simp only [Prod.mk.injEq] at hT
          obtain ⟨-, -, rfl, rfl⟩ := hT
          exact hf
      refine vc_seq ?_
      refine vc_draw Tryd.mixed [(0, true), (1, true), (2, true), (3, true), (4, true), (5, false)] (fun w => St _ _ [.blk b7 (.cells [.int .i64 (pl : Int), .int .i64 (ru : Int)].toArray 29 (0, 0))] w) (by exact st.drop (by repeat (first | exact sl0 | apply sl1 | apply sl2))) (by kernel_rfl) (by repeat (first | exact okQ_noPan | exact okQ_body | exact okQ_bodyS | refine okQ_then ?_ | refine okQ_block ?_)) rfl (by kernel_rfl) ?_
      intro w cd; replace st := st.call0 cd; clear cd
      have hS : St _ _ [.blk b7 (.cells [.int .i64 (pl : Int), .int .i64 (ru : Int)].toArray 29 (0, 0))] w := (by exact st.drop (by repeat (first | exact sl0 | apply sl1 | apply sl2)))
      refine vp_take rfl rfl rfl hS (fun w st => y_fa0 rfl Tryd.underlying29 rfl rfl Tryd.sizeOf3 rfl) ?_
      refine vp_take rfl rfl rfl hS (fun w st => (by exact y_ld st 0 rfl Tryd.isAgg3 rfl rfl)) ?_
      refine vp_take rfl rfl rfl hS (fun w st => y_bld (.agg #[_, _]) [(0, _), (1, _)] rfl (fun w => by simp [Instr.build, go_sem] <;> repeat' constructor)) ?_
      refine vp_take rfl rfl rfl hS (fun w st => y_as rfl) ?_
      refine vp_take rfl rfl rfl hS (fun w st => y_as rfl) ?_
      refine vp_do rfl (e_sts (vs := [_, _]) st 2 rfl rfl rfl rfl rfl Tryd.sizeOf29 rfl rfl (by first | (right; assumption) | (left; simp)) ?_)
      intro w st; dsimp only [setNth, wr] at st
      refine vp_next (by exact st.drop (by repeat (first | exact sl0 | apply sl1 | apply sl2))) ?_; intro hS
      refine vp_end ?_
      refine vq_then ?_
      refine vc_keep [(2, _), (3, _), (4, _)] ⟨rfl, rfl, rfl, trivial⟩ ?_
      refine vc_ret ?_
      refine vq_then_ret ?_
      refine vq_ret3 st (.inl rfl) Tryd.results31 (.tmp rfl) (.tmp rfl) (by exact .cell 2 rfl rfl Tryd.isAgg29 Tryd.sizeOf29) ?_
      refine ⟨_, rfl, ?_⟩
      exact ⟨st.chg, .inr (.inl ⟨hsl, ru, pl, hsc, rfl⟩)⟩
    · intro hc19
      try simp only [dn] at hc19
      have he : e = 0 := by omega
      subst he
      have hsc : (front s).2 = none ∧ T = (front s).1 := by
        unfold scanRes at hT
        rw [if_neg (by omega)] at hT
        split at hT
        · rename_i hf; simp only [Prod.mk.injEq] at hT; exact ⟨hf, hT.1.symm⟩
        · cases hT
      obtain ⟨hfr, rfl⟩ := hsc
      obtain ⟨hlen, hok⟩ := front_ok (s := s) (T := (front s).1) (f := (front s).2) rfl
      refine vc_code_skip ?_
      refine vq_then ?_
      refine vc_keep [(0, _), (4, _), (5, _)] ⟨rfl, rfl, rfl, trivial⟩ ?_
      refine vc_seq ?_
      refine vc_region ?_
      refine vc_y rfl rfl (y_mv rfl) ?_
      refine vc_y rfl rfl (y_mv rfl) ?_
      refine vc_y rfl rfl (y_lens rfl Tryd.underlying9) ?_
      refine vc_y rfl rfl (y_bld (.agg #[_, _, _, _, _]) [(0, _), (2, _)] rfl (fun w => by simp [Instr.build, go_sem] <;> repeat' constructor)) ?_
      have hbt : ∀ b ∈ obk to, b < w.heap.size := fun b hb => (owns_lt (st.res (i := 1) rfl) b hb).2
      refine vc_e (e_bxn (l := [_, _, _, _, _]) st rfl rfl rfl rfl ?_)
      intro b27 w hbe hb27 st
      refine vc_y rfl rfl (y_bld (.agg #[_, _]) [] rfl (fun w => by simp [Instr.build, go_sem] <;> repeat' constructor)) ?_
      refine vc_y rfl rfl (y_as rfl) ?_
      refine vc_y rfl rfl (y_as rfl) ?_
      refine vc_e (e_sts (vs := [_, _]) st 3 rfl rfl rfl rfl rfl Tryd.sizeOf29 rfl rfl (by first | (right; assumption) | (left; simp)) ?_)
      intro w st; dsimp only [setNth, wr] at st
      refine vc_end ?_
      refine vq_then ?_
      refine vc_keep [(2, _), (3, _), (4, _)] ⟨rfl, rfl, rfl, trivial⟩ ?_
      refine vc_ret ?_
      refine vq_ret3 st (.inl rfl) Tryd.results31 (.tmp rfl) (.tmp rfl) (by exact .cell 3 rfl rfl Tryd.isAgg29 Tryd.sizeOf29) ?_
      refine ⟨_, rfl, ?_⟩
      refine ⟨st.chg, .inr (.inr ⟨hsl, hfr, ⟨b27, b27, to, tc, (front s).1, s.length, 75⟩, ⟨rfl, rfl, rfl, st.res (i := 2) rfl, ?_, hb27, ?_, hsl⟩, rfl⟩)⟩
      · show w.heap[b27]? = _
        have h2 : w.heap[b27]? = some (.cells [.slice to (front s).1.length tc, .int .i64 0, .int .i64 (s.length : Int), .int .i64 0, .int .i64 0].toArray 75 (0, 0)) := st.res (i := 0) rfl
        rw [h2]; simp [rcell]
      · intro b hb; show b < b27; rw [hbe]; exact hbt b hb

set_option maxHeartbeats 1000000 in
theorem rexprs_text (s : List UInt8) (w : World) : Ret Tryd.prog 9 [str s] w (ExprPost s w) := by
  refine ret_of [_] Tryd.func9 rfl Tryd.ntmps9 rfl ?_
  have st := St.init w []
  obtain ⟨w0, rfl⟩ : ∃ w0, w0 = w := ⟨_, rfl⟩
  refine vc_seq ?_
  refine vc_region ?_
  refine vc_e (e_al (l := [_, _, _, _, _, _]) st rfl rfl Tryd.zeroValue26 rfl ?_)
  intro b2 w hb2 st
  refine vc_y rfl rfl (y_as rfl) ?_
  refine vc_e (e_al (l := [_, _]) st rfl rfl Tryd.zeroValue29 rfl ?_)
  intro b4 w hb4 st
  refine vc_end ?_
  refine vq_then ?_
  refine vc_keep [(0, _), (2, _), (4, _)] ⟨rfl, rfl, rfl, trivial⟩ ?_
  refine vc_seq ?_
  refine vc_region ?_
  refine vc_y rfl rfl (y_mv rfl) ?_
  refine vc_e (e_call [_] rfl rfl Tryd.call31 rfl (rbegun_any s _) ?_)
  rintro _ w ⟨cw, hb⟩
  rcases hb with ⟨hl, rfl⟩ | ⟨hl, ru, pl, hfr, rfl⟩ | ⟨hl, hfr, c, hn, rfl⟩
  · replace st := st.call0 cw
    have hpr : exprRes s = (ex0, 4, 0, 0) := by simp [exprRes, hl]
    refine vc_y rfl rfl (y_mv rfl) ?_
    refine vc_y rfl rfl (y_ext rfl rfl) ?_
    refine vc_y rfl rfl (y_ext rfl rfl) ?_
    refine vc_y rfl rfl (y_ext rfl rfl) ?_
    refine vc_e (e_al (l := [_, _]) st rfl rfl Tryd.zeroValue29 rfl ?_)
    intro b7 w hb7 st
    refine vc_y rfl rfl (y_as rfl) ?_
    refine vc_y rfl rfl (y_as rfl) ?_
    refine vc_e (e_sts (vs := [_, _]) st 0 rfl rfl rfl rfl rfl Tryd.sizeOf29 rfl rfl (by first | (right; assumption) | (left; simp)) ?_)
    intro w st; dsimp only [setNth, wr] at st
    refine vc_end ?_
    refine vq_then ?_
    refine vc_keep [(2, _), (4, _), (5, _), (6, _), (7, _)] ⟨rfl, rfl, rfl, rfl, rfl, trivial⟩ ?_
    refine vc_seq ?_
    refine vc_seq ?_
    refine vc_region ?_
    refine vc_y rfl rfl (y_mv rfl) ?_
    refine vc_y rfl rfl (y_nei rfl rfl) ?_
    refine vc_end ?_
    refine vq_then ?_
    refine vc_keep [(2, _), (4, _), (5, _), (6, _), (7, _), (16, _)] ⟨rfl, rfl, rfl, rfl, rfl, rfl, trivial⟩ ?_
    refine vc_ifs rfl ?_ ?_
    · intro hc16
      try simp only [dn] at hc16
      refine vc_seq ?_
      refine vc_draw Tryd.mixed [(0, true), (1, true), (2, true), (3, false), (4, true), (5, false)] (fun w => St _ _ [.blk b7 (.cells [.int .i64 0, .int .i64 0].toArray 29 (0, 0))] w) (by exact st.drop (by repeat (first | exact sl0 | apply sl1 | apply sl2))) (by kernel_rfl) (by repeat (first | exact okQ_noPan | exact okQ_body | exact okQ_bodyS | refine okQ_then ?_ | refine okQ_block ?_)) rfl (by kernel_rfl) ?_
      intro w cd; replace st := st.call0 cd; clear cd
      have hS : St _ _ [.blk b7 (.cells [.int .i64 0, .int .i64 0].toArray 29 (0, 0))] w := (by exact st.drop (by repeat (first | exact sl0 | apply sl1 | apply sl2)))
      refine vp_take rfl rfl rfl hS (fun w st => y_bld (.agg #[_, _, _, _, _, _]) [] rfl (fun w => by simp [Instr.build, go_sem] <;> repeat' constructor)) ?_
      refine vp_take rfl rfl rfl hS (fun w st => y_mv rfl) ?_
      refine vp_take rfl rfl rfl hS (fun w st => (by exact y_lda (vs := [_, _]) st 0 rfl Tryd.isAgg29 Tryd.sizeOf29 rfl rfl)) ?_
      refine vp_do rfl (e_sts (vs := [_, _, _, _, _, _]) st 2 rfl rfl rfl rfl rfl Tryd.sizeOf26 rfl rfl (by first | (right; assumption) | (left; simp)) ?_)
      intro w st; dsimp only [setNth, wr] at st
      refine vp_next (by exact st.drop (by repeat (first | exact sl0 | apply sl1 | apply sl2))) ?_; intro hS
      refine vp_take rfl rfl rfl hS (fun w st => y_as rfl) ?_
      refine vp_do rfl (e_sts (vs := [_, _]) st 1 rfl rfl rfl rfl rfl Tryd.sizeOf29 rfl rfl (by first | (right; assumption) | (left; simp)) ?_)
      intro w st; dsimp only [setNth, wr] at st
      refine vp_next (by exact st.drop (by repeat (first | exact sl0 | apply sl1 | apply sl2))) ?_; intro hS
      refine vp_end ?_
      refine vq_then ?_
      refine vc_keep [(2, _), (3, _), (4, _)] ⟨rfl, rfl, rfl, trivial⟩ ?_
      refine vc_ret ?_
      refine vq_then_ret ?_
      refine vq_ret3 st (.inl rfl) Tryd.results9 (by exact .cell 2 rfl rfl Tryd.isAgg26 Tryd.sizeOf26) (.tmp rfl) (by exact .cell 1 rfl rfl Tryd.isAgg29 Tryd.sizeOf29) ?_
      refine ⟨_, rfl, ?_⟩
      refine ⟨st.chg, ?_⟩
      rw [hpr]
      exact ⟨_, he_none _ _, rfl⟩
    · intro hc16
      exact absurd hc16 (by decide)
  · replace st := st.call0 cw
    have hpr : exprRes s = (ex0, 30, pl, 1) := by simp [exprRes, Nat.not_lt.2 hl, hfr]
    refine vc_y rfl rfl (y_mv rfl) ?_
    refine vc_y rfl rfl (y_ext rfl rfl) ?_
    refine vc_y rfl rfl (y_ext rfl rfl) ?_
    refine vc_y rfl rfl (y_ext rfl rfl) ?_
    refine vc_e (e_al (l := [_, _]) st rfl rfl Tryd.zeroValue29 rfl ?_)
    intro b7 w hb7 st
    refine vc_y rfl rfl (y_as rfl) ?_
    refine vc_y rfl rfl (y_as rfl) ?_
    refine vc_e (e_sts (vs := [_, _]) st 0 rfl rfl rfl rfl rfl Tryd.sizeOf29 rfl rfl (by first | (right; assumption) | (left; simp)) ?_)
    intro w st; dsimp only [setNth, wr] at st
    refine vc_end ?_
    refine vq_then ?_
    refine vc_keep [(2, _), (4, _), (5, _), (6, _), (7, _)] ⟨rfl, rfl, rfl, rfl, rfl, trivial⟩ ?_
    refine vc_seq ?_
    refine vc_seq ?_
    refine vc_region ?_
    refine vc_y rfl rfl (y_mv rfl) ?_
    refine vc_y rfl rfl (y_nei rfl rfl) ?_
    refine vc_end ?_
    refine vq_then ?_
    refine vc_keep [(2, _), (4, _), (5, _), (6, _), (7, _), (16, _)] ⟨rfl, rfl, rfl, rfl, rfl, rfl, trivial⟩ ?_
    refine vc_ifs rfl ?_ ?_
    · intro hc16
      try simp only [dn] at hc16
      refine vc_seq ?_
      refine vc_draw Tryd.mixed [(0, true), (1, true), (2, true), (3, false), (4, true), (5, false)] (fun w => St _ _ [.blk b7 (.cells [.int .i64 (pl : Int), .int .i64 1].toArray 29 (0, 0))] w) (by exact st.drop (by repeat (first | exact sl0 | apply sl1 | apply sl2))) (by kernel_rfl) (by repeat (first | exact okQ_noPan | exact okQ_body | exact okQ_bodyS | refine okQ_then ?_ | refine okQ_block ?_)) rfl (by kernel_rfl) ?_
      intro w cd; replace st := st.call0 cd; clear cd
      have hS : St _ _ [.blk b7 (.cells [.int .i64 (pl : Int), .int .i64 1].toArray 29 (0, 0))] w := (by exact st.drop (by repeat (first | exact sl0 | apply sl1 | apply sl2)))
      refine vp_take rfl rfl rfl hS (fun w st => y_bld (.agg #[_, _, _, _, _, _]) [] rfl (fun w => by simp [Instr.build, go_sem] <;> repeat' constructor)) ?_
      refine vp_take rfl rfl rfl hS (fun w st => y_mv rfl) ?_
      refine vp_take rfl rfl rfl hS (fun w st => (by exact y_lda (vs := [_, _]) st 0 rfl Tryd.isAgg29 Tryd.sizeOf29 rfl rfl)) ?_
      refine vp_do rfl (e_sts (vs := [_, _, _, _, _, _]) st 2 rfl rfl rfl rfl rfl Tryd.sizeOf26 rfl rfl (by first | (right; assumption) | (left; simp)) ?_)
      intro w st; dsimp only [setNth, wr] at st
      refine vp_next (by exact st.drop (by repeat (first | exact sl0 | apply sl1 | apply sl2))) ?_; intro hS
      refine vp_take rfl rfl rfl hS (fun w st => y_as rfl) ?_
      refine vp_do rfl (e_sts (vs := [_, _]) st 1 rfl rfl rfl rfl rfl Tryd.sizeOf29 rfl rfl (by first | (right; assumption) | (left; simp)) ?_)
      intro w st; dsimp only [setNth, wr] at st
      refine vp_next (by exact st.drop (by repeat (first | exact sl0 | apply sl1 | apply sl2))) ?_; intro hS
      refine vp_end ?_
      refine vq_then ?_
      refine vc_keep [(2, _), (3, _), (4, _)] ⟨rfl, rfl, rfl, trivial⟩ ?_
      refine vc_ret ?_
      refine vq_then_ret ?_
      refine vq_ret3 st (.inl rfl) Tryd.results9 (by exact .cell 2 rfl rfl Tryd.isAgg26 Tryd.sizeOf26) (.tmp rfl) (by exact .cell 1 rfl rfl Tryd.isAgg29 Tryd.sizeOf29) ?_
      refine ⟨_, rfl, ?_⟩
      refine ⟨st.chg, ?_⟩
      rw [hpr]
      exact ⟨_, he_none _ _, rfl⟩
    · intro hc16
      exact absurd hc16 (by decide)
  · have hw1 := st.chg.size
    replace st := st.rnew cw hn
    have hrb := Nat.le_trans hw1 hn.le
    have hpr : exprRes s = match exprP c.e 64 c.ts with | .error f => (ex0, 30, f.1, f.2) | .ok (x, r) => if r.length = 0 then (x, 0, 0, 0) else (ex0, 30, atT c.e r, 2) := by
      unfold exprRes; rw [if_neg (by omega), hfr, hn.e, hn.ts]
      try rfl
    refine vc_y rfl rfl (y_mv rfl) ?_
    refine vc_y rfl rfl (y_ext rfl rfl) ?_
    refine vc_y rfl rfl (y_ext rfl rfl) ?_
    refine vc_y rfl rfl (y_ext rfl rfl) ?_
    refine vc_e (e_al (l := [_, _]) st rfl rfl Tryd.zeroValue29 rfl ?_)
    intro b7 w hb7 st
    refine vc_y rfl rfl (y_as rfl) ?_
    refine vc_y rfl rfl (y_as rfl) ?_
    refine vc_e (e_sts (vs := [_, _]) st 0 rfl rfl rfl rfl rfl Tryd.sizeOf29 rfl rfl (by first | (right; assumption) | (left; simp)) ?_)
    intro w st; dsimp only [setNth, wr] at st
    refine vc_end ?_
    refine vq_then ?_
    refine vc_keep [(2, _), (4, _), (5, _), (6, _), (7, _)] ⟨rfl, rfl, rfl, rfl, rfl, trivial⟩ ?_
    refine vc_seq ?_
    refine vc_seq ?_
    refine vc_region ?_
    refine vc_y rfl rfl (y_mv rfl) ?_
    refine vc_y rfl rfl (y_nei rfl rfl) ?_
    refine vc_end ?_
    refine vq_then ?_
    refine vc_keep [(2, _), (4, _), (5, _), (6, _), (7, _), (16, _)] ⟨rfl, rfl, rfl, rfl, rfl, rfl, trivial⟩ ?_
    refine vc_ifs rfl ?_ ?_
    · intro hc16
      exact absurd hc16 (by decide)
    · intro hc16
      try simp only [dn] at hc16
      refine vc_code_skip ?_
      refine vq_then ?_
      refine vc_keep [(2, _), (4, _), (5, _)] ⟨rfl, rfl, rfl, trivial⟩ ?_
      refine vc_seq ?_
      refine vc_region ?_
      refine vc_y rfl rfl (y_mv rfl) ?_
      refine vc_e (e_call [_, _, _] rfl rfl Tryd.call32 rfl ((reader_any c c.ts.length).2 64 0 rfl 1 (by omega) (by omega) ⟨c.ts, (0, 0)⟩ (List.suffix_refl _) (fun _ => Nat.le_refl _) _ (hn.ok (st.res (i := 2) rfl) (st.res (i := 1) rfl)) (st.res (i := 1) rfl)) ?_)
      rintro _ w ⟨x, σ, hD, hsf, hP1, cw, oq, cq, Sq, rfl, hQ, hN⟩
      have hw2 := st.chg.size
      replace st := St.prsT (b := c.rb) st 1 rfl cw (.inr hrb) hP1 (holds_ex hQ) hN.2
      dsimp only [setNth] at st
      have hdone := expr_done rfl hD
      have hsl := suf_len hsf
      dsimp only at hdone hsf hsl
      refine vc_e (e_al (l := [_, _, _, _, _, _]) st rfl rfl Tryd.zeroValue26 rfl ?_)
      intro b8 w hb8 st
      refine vc_e (e_sts (vs := [_, _, _, _, _, _]) st 0 rfl rfl rfl rfl rfl Tryd.sizeOf26 rfl rfl (by first | (right; assumption) | (left; simp)) ?_)
      intro w st; dsimp only [setNth, wr] at st
      refine vc_end ?_
      refine vq_then ?_
      refine vc_keep [(2, _), (4, _), (5, _), (8, _)] ⟨rfl, rfl, rfl, rfl, trivial⟩ ?_
      refine vc_seq ?_
      refine vc_seq ?_
      refine vc_draw Tryd.mixed [(0, true), (1, false), (2, true), (3, true), (4, true), (5, true), (6, true), (7, true), (8, true), (9, true), (10, true), (11, true), (12, true), (13, true)] (fun w => St _ _ [.blk c.rb (.cells (rcell c σ).toArray c.T (0, 0))] w) (by exact st.drop (by repeat (first | exact sl0 | apply sl1 | apply sl2))) (by kernel_rfl) (by repeat (first | exact okQ_noPan | exact okQ_body | exact okQ_bodyS | refine okQ_then ?_ | refine okQ_block ?_)) rfl (by kernel_rfl) ?_
      intro w cd; replace st := st.call0 cd; clear cd
      have hS : St _ _ [.blk c.rb (.cells (rcell c σ).toArray c.T (0, 0))] w := (by exact st.drop (by repeat (first | exact sl0 | apply sl1 | apply sl2)))
      refine vp_take rfl rfl rfl hS (fun w st => y_mv rfl) ?_
      refine vp_do rfl (e_call [_] rfl rfl Tryd.call33 rfl (rok_any c σ hsf _ (by exact hn.ok (st.res (i := 4) rfl) (st.res (i := 3) rfl)) (by exact st.res (i := 3) rfl)) ?_)
      rintro _ w ⟨rfl, cw⟩
      replace st := st.call0 cw
      refine vp_next (by exact st.drop (by repeat (first | exact sl0 | apply sl1 | apply sl2))) ?_; intro hS
      refine vp_part rfl rfl rfl hS rfl ?_ ?_
      · intro hg24
        try simp only [dn] at hg24
        have ho : σ.ok := by simpa using hg24
        refine vp_take rfl rfl rfl hS (fun w st => y_mv rfl) ?_
        refine vp_take rfl rfl rfl hS (fun w st => y_nck rfl) ?_
        refine vp_take rfl rfl rfl hS (fun w st => (by exact y_faz (k := 1) rfl Tryd.underlying75 rfl rfl Tryd.sizeOf3 rfl)) ?_
        refine vp_take rfl rfl rfl hS (fun w st => (by exact y_ld st 0 rfl Tryd.isAgg3 rfl rfl)) ?_
        refine vp_take rfl rfl rfl hS (fun w st => y_mv rfl) ?_
        refine vp_take rfl rfl rfl hS (fun w st => y_nck rfl) ?_
        refine vp_take rfl rfl rfl hS (fun w st => y_fa0 rfl Tryd.underlying75 rfl rfl Tryd.sizeOf47 rfl) ?_
        refine vp_take rfl rfl rfl hS (fun w st => (by exact y_ld st 0 rfl Tryd.isAgg47 rfl rfl)) ?_
        refine vp_take rfl rfl rfl hS (fun w st => y_lensl rfl Tryd.underlying47) ?_
        refine vp_take rfl rfl rfl hS (fun w st => y_lss rfl rfl) ?_
        refine vp_take rfl rfl rfl hS (fun w st => y_pickt rfl rfl) ?_
        refine vp_end ?_
        refine vq_then ?_
        refine vc_keep [(2, _), (4, _), (5, _), (8, _), (35, _)] ⟨rfl, rfl, rfl, rfl, rfl, trivial⟩ ?_
        refine vc_ifs rfl ?_ ?_
        · intro hc35
          try simp only [dn] at hc35
          have hrn : 0 < σ.r.length := by omega
          refine vc_region ?_
          refine vc_y rfl rfl (y_mv rfl) ?_
          refine vc_e (e_call [_, _] rfl rfl Tryd.call34 rfl (rfail_any c 2 σ hsf _ (by exact hn.ok (st.res (i := 4) rfl) (st.res (i := 3) rfl)) (by exact st.res (i := 3) rfl)) ?_)
          rintro _ w ⟨rfl, hP1, cw⟩
          first
          | replace st := St.prs (b := c.rb) st 0 rfl cw (.inr hrb) hP1
          | replace st := St.prs (b := c.rb) st 1 rfl cw (.inr hrb) hP1
          | replace st := St.prs (b := c.rb) st 2 rfl cw (.inr hrb) hP1
          | replace st := St.prs (b := c.rb) st 3 rfl cw (.inr hrb) hP1
          | replace st := St.prs (b := c.rb) st 4 rfl cw (.inr hrb) hP1
          | replace st := St.prs (b := c.rb) st 5 rfl cw (.inr hrb) hP1
          | replace st := St.prs (b := c.rb) st 6 rfl cw (.inr hrb) hP1
          | replace st := St.prs (b := c.rb) st 7 rfl cw (.inr hrb) hP1
          dsimp only [setNth] at st
          obtain ⟨σ2, hσ2⟩ : ∃ σ2, failR c.e 2 σ = σ2 := ⟨_, rfl⟩
          rw [hσ2] at st
          rw [failR_ok ho] at hσ2
          refine vc_end ?_
          refine vq_then ?_
          refine vc_keep [(2, _), (4, _), (5, _), (8, _)] ⟨rfl, rfl, rfl, rfl, trivial⟩ ?_
          refine vc_seq ?_
          refine vc_seq ?_
          refine vc_region ?_
          refine vc_y rfl rfl (y_mv rfl) ?_
          refine vc_e (e_call [_] rfl rfl Tryd.call33 rfl (rok_any c σ2 (by rw [← hσ2]; exact hsf) _ (by exact hn.ok (st.res (i := 4) rfl) (st.res (i := 3) rfl)) (by exact st.res (i := 3) rfl)) ?_)
          rintro _ w ⟨rfl, cw⟩
          replace st := st.call0 cw
          refine vc_y rfl rfl (y_not rfl) ?_
          refine vc_end ?_
          refine vq_then ?_
          refine vc_keep [(2, _), (4, _), (5, _), (8, _), (40, _)] ⟨rfl, rfl, rfl, rfl, rfl, trivial⟩ ?_
          refine vc_ifs rfl ?_ ?_
          · intro hc40
            try simp only [dn] at hc40
            have hb : exprRes s = (ex0, 30, atT c.e σ.r, 2) := by
              rcases hdone with ⟨f, h1, h2, h3⟩ | ⟨h1, h2⟩
              · exact absurd ho (by show ¬ σ.f.2 = 0; rw [h2]; exact h3)
              · rw [hpr, h1]; dsimp only; rw [if_neg (by omega)]
            refine vc_seq ?_
            refine vc_draw Tryd.mixed [(0, true), (1, true), (2, true), (3, true), (4, true), (5, true), (6, true), (7, true), (8, true), (9, true), (10, false), (11, true), (12, false)] (fun w => St _ _ [.blk c.rb (.cells (rcell c σ2).toArray c.T (0, 0))] w) (by exact st.drop (by repeat (first | exact sl0 | apply sl1 | apply sl2))) (by kernel_rfl) (by repeat (first | exact okQ_noPan | exact okQ_body | exact okQ_bodyS | refine okQ_then ?_ | refine okQ_block ?_)) rfl (by kernel_rfl) ?_
            intro w cd; replace st := st.call0 cd; clear cd
            have hS : St _ _ [.blk c.rb (.cells (rcell c σ2).toArray c.T (0, 0))] w := (by exact st.drop (by repeat (first | exact sl0 | apply sl1 | apply sl2)))
            refine vp_take rfl rfl rfl hS (fun w st => y_bld (.agg #[_, _, _, _, _, _]) [] rfl (fun w => by simp [Instr.build, go_sem] <;> repeat' constructor)) ?_
            refine vp_take rfl rfl rfl hS (fun w st => y_mv rfl) ?_
            refine vp_take rfl rfl rfl hS (fun w st => y_nck rfl) ?_
            refine vp_take rfl rfl rfl hS (fun w st => (by exact y_faz (k := 3) rfl Tryd.underlying75 rfl rfl Tryd.sizeOf3 rfl)) ?_
            refine vp_take rfl rfl rfl hS (fun w st => (by exact y_ld st 0 rfl Tryd.isAgg3 rfl rfl)) ?_
            refine vp_take rfl rfl rfl hS (fun w st => y_mv rfl) ?_
            refine vp_take rfl rfl rfl hS (fun w st => y_nck rfl) ?_
            refine vp_take rfl rfl rfl hS (fun w st => (by exact y_faz (k := 4) rfl Tryd.underlying75 rfl rfl Tryd.sizeOf3 rfl)) ?_
            refine vp_take rfl rfl rfl hS (fun w st => (by exact y_ld st 0 rfl Tryd.isAgg3 rfl rfl)) ?_
            refine vp_take rfl rfl rfl hS (fun w st => y_bld (.agg #[_, _]) [(0, _), (1, _)] rfl (fun w => by simp [Instr.build, go_sem] <;> repeat' constructor)) ?_
            refine vp_do rfl (e_sts (vs := [_, _, _, _, _, _]) st 6 rfl rfl rfl rfl rfl Tryd.sizeOf26 rfl rfl (by first | (right; assumption) | (left; simp)) ?_)
            intro w st; dsimp only [setNth, wr] at st
            refine vp_next (by exact st.drop (by repeat (first | exact sl0 | apply sl1 | apply sl2))) ?_; intro hS
            refine vp_take rfl rfl rfl hS (fun w st => y_as rfl) ?_
            refine vp_do rfl (e_sts (vs := [_, _]) st 5 rfl rfl rfl rfl rfl Tryd.sizeOf29 rfl rfl (by first | (right; assumption) | (left; simp)) ?_)
            intro w st; dsimp only [setNth, wr] at st
            refine vp_next (by exact st.drop (by repeat (first | exact sl0 | apply sl1 | apply sl2))) ?_; intro hS
            refine vp_end ?_
            refine vq_then ?_
            refine vc_keep [(2, _), (3, _), (4, _)] ⟨rfl, rfl, rfl, trivial⟩ ?_
            refine vc_ret ?_
            refine vq_then_ret ?_
            refine vq_ret3 st (.inl rfl) Tryd.results9 (by exact .cell 6 rfl rfl Tryd.isAgg26 Tryd.sizeOf26) (.tmp rfl) (by exact .cell 5 rfl rfl Tryd.isAgg29 Tryd.sizeOf29) ?_
            refine ⟨_, rfl, ?_⟩
            refine ⟨st.chg, ?_⟩
            rw [hb]
            rw [← hσ2]
            exact ⟨_, he_none _ _, rfl⟩
          · intro hc40
            exfalso; rw [← hσ2] at hc40; simp [RS.ok] at hc40
        · intro hc35
          try simp only [dn] at hc35
          have hrn : σ.r.length = 0 := by omega
          refine vc_code_skip ?_
          refine vq_then ?_
          refine vc_keep [(2, _), (4, _), (5, _), (8, _)] ⟨rfl, rfl, rfl, rfl, trivial⟩ ?_
          refine vc_seq ?_
          refine vc_seq ?_
          refine vc_region ?_
          refine vc_y rfl rfl (y_mv rfl) ?_
          refine vc_e (e_call [_] rfl rfl Tryd.call33 rfl (rok_any c σ hsf _ (by exact hn.ok (st.res (i := 4) rfl) (st.res (i := 3) rfl)) (by exact st.res (i := 3) rfl)) ?_)
          rintro _ w ⟨rfl, cw⟩
          replace st := st.call0 cw
          refine vc_y rfl rfl (y_not rfl) ?_
          refine vc_end ?_
          refine vq_then ?_
          refine vc_keep [(2, _), (4, _), (5, _), (8, _), (40, _)] ⟨rfl, rfl, rfl, rfl, rfl, trivial⟩ ?_
          refine vc_ifs rfl ?_ ?_
          · intro hc40
            exfalso; simp [ho] at hc40
          · intro hc40
            try simp only [dn] at hc40
            have hb : exprRes s = (x, 0, 0, 0) := by
              rcases hdone with ⟨f, h1, h2, h3⟩ | ⟨h1, h2⟩
              · exact absurd ho (by show ¬ σ.f.2 = 0; rw [h2]; exact h3)
              · rw [hpr, h1]; dsimp only; rw [if_pos hrn]
            refine vc_code_skip ?_
            refine vq_then ?_
            refine vc_keep [(2, _), (4, _), (8, _)] ⟨rfl, rfl, rfl, trivial⟩ ?_
            refine vc_seq ?_
            refine vc_region ?_
            refine vc_y rfl rfl ((by exact y_lda (vs := [_, _, _, _, _, _]) st 0 rfl Tryd.isAgg26 Tryd.sizeOf26 rfl rfl)) ?_
            refine vc_y rfl rfl (y_bld (.agg #[_, _]) [] rfl (fun w => by simp [Instr.build, go_sem] <;> repeat' constructor)) ?_
            refine vc_e (e_sts (vs := [_, _, _, _, _, _]) st 6 rfl rfl rfl rfl rfl Tryd.sizeOf26 rfl rfl (by first | (right; assumption) | (left; simp)) ?_)
            intro w st; dsimp only [setNth, wr] at st
            refine vc_y rfl rfl (y_as rfl) ?_
            refine vc_e (e_sts (vs := [_, _]) st 5 rfl rfl rfl rfl rfl Tryd.sizeOf29 rfl rfl (by first | (right; assumption) | (left; simp)) ?_)
            intro w st; dsimp only [setNth, wr] at st
            refine vc_end ?_
            refine vq_then ?_
            refine vc_keep [(2, _), (3, _), (4, _)] ⟨rfl, rfl, rfl, trivial⟩ ?_
            refine vc_ret ?_
            refine vq_ret3 st (.inl rfl) Tryd.results9 (by exact .cell 6 rfl rfl Tryd.isAgg26 Tryd.sizeOf26) (.tmp rfl) (by exact .cell 5 rfl rfl Tryd.isAgg29 Tryd.sizeOf29) ?_
            refine ⟨_, rfl, ?_⟩
            refine ⟨st.chg, ?_⟩
            rw [hb]
            exact ⟨_, ⟨oq, cq, Sq, rfl, (by exact (st.res (i := 1) rfl).1), hN.le hw2⟩, rfl⟩
      · intro hg24
        try simp only [dn] at hg24
        have ho : ¬ σ.ok := by simpa using hg24
        refine vp_skip rfl rfl rfl hS ?_
        refine vp_skip rfl rfl rfl hS ?_
        refine vp_skip rfl rfl rfl hS ?_
        refine vp_skip rfl rfl rfl hS ?_
        refine vp_skip rfl rfl rfl hS ?_
        refine vp_skip rfl rfl rfl hS ?_
        refine vp_skip rfl rfl rfl hS ?_
        refine vp_skip rfl rfl rfl hS ?_
        refine vp_skip rfl rfl rfl hS ?_
        refine vp_skip rfl rfl rfl hS ?_
        refine vp_take rfl rfl rfl hS (fun w st => y_pickf rfl rfl) ?_
        refine vp_end ?_
        refine vq_then ?_
        refine vc_keep [(2, _), (4, _), (5, _), (8, _), (35, _)] ⟨rfl, rfl, rfl, rfl, rfl, trivial⟩ ?_
        refine vc_iff rfl ?_
        refine vc_code_skip ?_
        refine vq_then ?_
        refine vc_keep [(2, _), (4, _), (5, _), (8, _)] ⟨rfl, rfl, rfl, rfl, trivial⟩ ?_
        refine vc_seq ?_
        refine vc_seq ?_
        refine vc_region ?_
        refine vc_y rfl rfl (y_mv rfl) ?_
        refine vc_e (e_call [_] rfl rfl Tryd.call33 rfl (rok_any c σ hsf _ (by exact hn.ok (st.res (i := 4) rfl) (st.res (i := 3) rfl)) (by exact st.res (i := 3) rfl)) ?_)
        rintro _ w ⟨rfl, cw⟩
        replace st := st.call0 cw
        refine vc_y rfl rfl (y_not rfl) ?_
        refine vc_end ?_
        refine vq_then ?_
        refine vc_keep [(2, _), (4, _), (5, _), (8, _), (40, _)] ⟨rfl, rfl, rfl, rfl, rfl, trivial⟩ ?_
        refine vc_ifs rfl ?_ ?_
        · intro hc40
          try simp only [dn] at hc40
          have hb : exprRes s = (ex0, 30, σ.f.1, σ.f.2) := by
            rcases hdone with ⟨f, h1, h2, h3⟩ | ⟨h1, h2⟩
            · rw [hpr, h1, h2]
            · exact absurd h2 ho
          refine vc_seq ?_
          refine vc_draw Tryd.mixed [(0, true), (1, true), (2, true), (3, true), (4, true), (5, true), (6, true), (7, true), (8, true), (9, true), (10, false), (11, true), (12, false)] (fun w => St _ _ [.blk c.rb (.cells (rcell c σ).toArray c.T (0, 0))] w) (by exact st.drop (by repeat (first | exact sl0 | apply sl1 | apply sl2))) (by kernel_rfl) (by repeat (first | exact okQ_noPan | exact okQ_body | exact okQ_bodyS | refine okQ_then ?_ | refine okQ_block ?_)) rfl (by kernel_rfl) ?_
          intro w cd; replace st := st.call0 cd; clear cd
          have hS : St _ _ [.blk c.rb (.cells (rcell c σ).toArray c.T (0, 0))] w := (by exact st.drop (by repeat (first | exact sl0 | apply sl1 | apply sl2)))
          refine vp_take rfl rfl rfl hS (fun w st => y_bld (.agg #[_, _, _, _, _, _]) [] rfl (fun w => by simp [Instr.build, go_sem] <;> repeat' constructor)) ?_
          refine vp_take rfl rfl rfl hS (fun w st => y_mv rfl) ?_
          refine vp_take rfl rfl rfl hS (fun w st => y_nck rfl) ?_
          refine vp_take rfl rfl rfl hS (fun w st => (by exact y_faz (k := 3) rfl Tryd.underlying75 rfl rfl Tryd.sizeOf3 rfl)) ?_
          refine vp_take rfl rfl rfl hS (fun w st => (by exact y_ld st 0 rfl Tryd.isAgg3 rfl rfl)) ?_
          refine vp_take rfl rfl rfl hS (fun w st => y_mv rfl) ?_
          refine vp_take rfl rfl rfl hS (fun w st => y_nck rfl) ?_
          refine vp_take rfl rfl rfl hS (fun w st => (by exact y_faz (k := 4) rfl Tryd.underlying75 rfl rfl Tryd.sizeOf3 rfl)) ?_
          refine vp_take rfl rfl rfl hS (fun w st => (by exact y_ld st 0 rfl Tryd.isAgg3 rfl rfl)) ?_
          refine vp_take rfl rfl rfl hS (fun w st => y_bld (.agg #[_, _]) [(0, _), (1, _)] rfl (fun w => by simp [Instr.build, go_sem] <;> repeat' constructor)) ?_
          refine vp_do rfl (e_sts (vs := [_, _, _, _, _, _]) st 6 rfl rfl rfl rfl rfl Tryd.sizeOf26 rfl rfl (by first | (right; assumption) | (left; simp)) ?_)
          intro w st; dsimp only [setNth, wr] at st
          refine vp_next (by exact st.drop (by repeat (first | exact sl0 | apply sl1 | apply sl2))) ?_; intro hS
          refine vp_take rfl rfl rfl hS (fun w st => y_as rfl) ?_
          refine vp_do rfl (e_sts (vs := [_, _]) st 5 rfl rfl rfl rfl rfl Tryd.sizeOf29 rfl rfl (by first | (right; assumption) | (left; simp)) ?_)
          intro w st; dsimp only [setNth, wr] at st
          refine vp_next (by exact st.drop (by repeat (first | exact sl0 | apply sl1 | apply sl2))) ?_; intro hS
          refine vp_end ?_
          refine vq_then ?_
          refine vc_keep [(2, _), (3, _), (4, _)] ⟨rfl, rfl, rfl, trivial⟩ ?_
          refine vc_ret ?_
          refine vq_then_ret ?_
          refine vq_ret3 st (.inl rfl) Tryd.results9 (by exact .cell 6 rfl rfl Tryd.isAgg26 Tryd.sizeOf26) (.tmp rfl) (by exact .cell 5 rfl rfl Tryd.isAgg29 Tryd.sizeOf29) ?_
          refine ⟨_, rfl, ?_⟩
          refine ⟨st.chg, ?_⟩
          rw [hb]
          exact ⟨_, he_none _ _, rfl⟩
        · intro hc40
          exfalso; simp [ho] at hc40

end Go.Proofs.YtggnfanphcaamaaDoor


/- What is read of a tree that lies in rows. -/
namespace Sx
open Go Go.RowKit
set_option linter.unusedVariables false
variable {w : World} {S : Nat → Prop}
theorem ExRow.gets {oa : Option Addr} {es : List Ex} (h : ExRow w S oa es) (hne : 0 < es.length) : ∃ b off, oa = some ⟨b, off, none⟩ ∧ ∀ j x, es[j]? = some x → ∃ ok ck, (∀ i v, (exC x ok ck)[i]? = some v → w.cell? ⟨b, off + j * 6 + i, none⟩ = some v) ∧ ExRow w S ok x.kids := by
  obtain ⟨vs, hr, hk⟩ := h
  rcases hr with h0 | ⟨b, off, e, -, -, hc⟩
  · omega
  · refine ⟨b, off, e, fun j x hx => ?_⟩
    have hj : j < es.length := (List.getElem?_eq_some_iff.1 hx).1
    have hv := hk j x hx
    obtain ⟨-, hcell⟩ := hc j hj
    generalize vs j = l at hv hcell
    cases hv with
    | mk vs' hr' hk' => exact ⟨_, _, hcell, _, hr', hk'⟩
theorem SmRow.gets {oa : Option Addr} {es : List Sm} (h : SmRow w S oa es) (hne : 0 < es.length) : ∃ b off, oa = some ⟨b, off, none⟩ ∧ ∀ j x, es[j]? = some x → ∃ oe ob ol ce cb cl, (∀ i v, (smC x oe ob ol ce cb cl)[i]? = some v → w.cell? ⟨b, off + j * 7 + i, none⟩ = some v) ∧ ExRow w S oe x.e ∧ SmRow w S ob x.body ∧ SmRow w S ol x.els := by
  obtain ⟨vs, hr, hk⟩ := h
  rcases hr with h0 | ⟨b, off, e, -, -, hc⟩
  · omega
  · refine ⟨b, off, e, fun j x hx => ?_⟩
    have hj : j < es.length := (List.getElem?_eq_some_iff.1 hx).1
    have hv := hk j x hx
    obtain ⟨-, hcell⟩ := hc j hj
    generalize vs j = l at hv hcell
    cases hv with
    | mk vb vl he hb hbk hl hlk => exact ⟨_, _, _, _, _, _, hcell, he, ⟨_, hb, hbk⟩, _, hl, hlk⟩
theorem ThRow.gets {oa : Option Addr} {es : List Th} (h : ThRow w S oa es) (hne : 0 < es.length) : ∃ b off, oa = some ⟨b, off, none⟩ ∧ ∀ j x, es[j]? = some x → ∃ ol ob cl cb, (∀ i v, (thC x ol ob cl cb)[i]? = some v → w.cell? ⟨b, off + j * 4 + i, none⟩ = some v) ∧ DcRow w S ol x.locals ∧ SmRow w S ob x.body := by
  obtain ⟨vs, hr, hk⟩ := h
  rcases hr with h0 | ⟨b, off, e, -, -, hc⟩
  · omega
  · refine ⟨b, off, e, fun j x hx => ?_⟩
    have hj : j < es.length := (List.getElem?_eq_some_iff.1 hx).1
    obtain ⟨ol, cl, ob, cb, hl, hd, hs⟩ := hk j x hx
    obtain ⟨-, hcell⟩ := hc j hj
    rw [hl] at hcell
    exact ⟨ol, ob, cl, cb, hcell, hd, hs⟩
theorem DcRow.gets {oa : Option Addr} {ds : List Dc} (h : DcRow w S oa ds) (hne : 0 < ds.length) : ∃ b off, oa = some ⟨b, off, none⟩ ∧ ∀ j x, ds[j]? = some x → ∀ i v, (dcL x)[i]? = some v → w.cell? ⟨b, off + j * 3 + i, none⟩ = some v := by
  rcases h with h0 | ⟨b, off, e, -, -, hc⟩
  · omega
  · refine ⟨b, off, e, fun j x hx => ?_⟩
    have hj : j < ds.length := (List.getElem?_eq_some_iff.1 hx).1
    obtain ⟨-, hcell⟩ := hc j hj
    simpa only [List.getD, hx, Option.getD_some] using hcell
theorem pgS_rows {tE tS tD tT : Nat} {p : Pg} {os ol ot : Option Addr} {cs cl ct : Nat} {B : List Nat} (h : PgS tE tS tD tT w p (pgC p os ol ot cs cl ct) B) : DcRow w (fun _ => True) os p.shared ∧ DcRow w (fun _ => True) ol p.locks ∧ ThRow w (fun _ => True) ot p.threads := by
  obtain ⟨os', cs', ol', cl', ot', ct', e, h1, h2, h3⟩ := h.toV (T := fun _ => True) (fun _ _ => trivial)
  simp only [pgC, List.cons.injEq, Value.slice.injEq, and_true, true_and] at e
  obtain ⟨⟨rfl, -⟩, ⟨rfl, -⟩, rfl, -⟩ := e
  exact ⟨h1, h2, h3⟩
theorem exR_rows {tE : Nat} {oa : Option Addr} {cap : Nat} {es : List Ex} {B : List Nat} (h : ExR tE w oa cap es B) : ExRow w (fun _ => True) oa es := h.toRow (fun _ _ => trivial)
end Sx


/- The two texts that say whether the parser lives. -/
namespace ParS
open LexS Sx Go.RowKit Go
def liveS : List UInt8 := [115, 104, 97, 114, 101, 100, 32, 120, 32, 61, 32, 45, 51, 59, 32, 116, 104, 114, 101, 97, 100, 32, 97, 32, 123, 32, 120, 32, 61, 32, 49, 32, 43, 32, 50, 32, 42, 32, 120, 59, 32, 125]
def deadS : List UInt8 := [116, 104, 114, 101, 97, 100, 32, 97, 32, 123, 32, 120, 32, 61, 32, 49, 32, 125]
set_option maxRecDepth 100000
abbrev liveQ : Pg := ⟨[⟨[120], -3, 7⟩], [], [⟨[97], [], [.mk 1 [120] [] [.mk 4 1 0 [] [.mk 1 0 1 [] [] 30, .mk 4 3 0 [] [.mk 1 0 2 [] [] 34, .mk 2 0 0 [120] [] 38] 36] 32] [] [] 26], 22⟩]⟩
theorem live_res : parseRes liveS = (liveQ, 0, 0, 0) := by kernel_rfl
theorem dead_res : parseRes deadS = (pg0, 30, 17, 2) := by kernel_rfl

end ParS


namespace Go.Proofs.YtggnfanphcaamaaDoor
open Go.RowKit Sx LexS ParS
set_option linter.unusedVariables false
set_option linter.unusedSimpArgs false
theorem fieldsF : (Tryd.prog.fieldsOf 29).toList.map (fun f => (f.name, f.type, f.offset)) = [("At", 3, 0), ("Rule", 3, 1)] := by kernel_rfl
theorem eqFieldsF (p q r s : Int) (w : World) : (Op.eqFields 9999 [.int .i64 p, .int .i64 q].toArray [.int .i64 r, .int .i64 s].toArray (Tryd.prog.fieldsOf 29).toList).run Tryd.prog w = .ok (decide (p = r) && decide (q = s)) w := by
  have h := fieldsF
  match hf : (Tryd.prog.fieldsOf 29).toList with
  | [a, b] =>
    rw [hf] at h
    simp only [List.map_cons, List.map_nil, List.cons.injEq, Prod.mk.injEq, and_true] at h
    obtain ⟨⟨a1, a2, a3⟩, b1, b2, b3⟩ := h
    have e1 : ∀ (x y : Int) w, (part 3 [.int .i64 x, .int .i64 y].toArray 0).run Tryd.prog w = .ok (.int .i64 x) w := fun x y w => run_part1 Tryd.isAgg3 rfl
    have e2 : ∀ (x y : Int) w, (part 3 [.int .i64 x, .int .i64 y].toArray 1).run Tryd.prog w = .ok (.int .i64 y) w := fun x y w => run_part1 Tryd.isAgg3 rfl
    have r1 := run_equalIn_int (P := Tryd.prog) w 9998 3 .i64 .i64 p r Tryd.underlying3
    have r2 := run_equalIn_int (P := Tryd.prog) w 9998 3 .i64 .i64 q s Tryd.underlying3
    simp only [Op.eqFields, a1, a2, a3, b1, b2, b3, Sem.run_bind, Sem.run_ite, e1, e2, Result.andThen_ok]
    simp only [ne_eq, String.reduceEq, not_false_eq_true, if_true, Sem.run_bind, Sem.run_ite, e1, e2, r1, r2, Result.andThen_ok, Sem.run_pure]
    by_cases h1 : p = r
    · by_cases h2 : q = s <;> simp [h1, h2]
    · simp [h1]
  | [] => rw [hf] at h; simp at h
  | [_] => rw [hf] at h; simp at h
  | _ :: _ :: _ :: _ => rw [hf] at h; simp at h
section
variable {n : Fr} {kn : Kn} {w : World} {d ty : Nat} {pos : String} {aft : Array Edge} {g : Option (Nat × Bool)}
theorem y_neF {U : Nat} {x y : Operand} {p q r s : Int} (hx : evO kn x = some (.agg [.int .i64 p, .int .i64 q].toArray)) (hy : evO kn y = some (.agg [.int .i64 r, .int .i64 s].toArray)) : Y Tryd.prog n kn w ⟨some d, .binOp .neq 29 x y U, ty, pos, aft, g⟩ (.bool (!(decide (p = r) && decide (q = s)))) :=
  y_bo hx hy (by
    have h1 := run_eqGuard_agg (P := Tryd.prog) w .neq 29 x y [.int .i64 p, .int .i64 q].toArray [.int .i64 r, .int .i64 s].toArray (by kernel_rfl)
    have h2 := run_neq_struct (P := Tryd.prog) w 29 [.int .i64 p, .int .i64 q].toArray [.int .i64 r, .int .i64 s].toArray
    rw [run_equalIn_agg w 9999 29 _ _ (by kernel_rfl) (by kernel_rfl), eqFieldsF] at h2
    simp only [Sem.run_bind, h1, Result.andThen_ok]
    have h3 : (binOp .neq 29 (.agg [.int .i64 p, .int .i64 q].toArray) (.agg [.int .i64 r, .int .i64 s].toArray)).run Tryd.prog w = .ok (.bool (!(decide (p = r) && decide (q = s)))) w := by rw [h2]; rfl
    exact h3)
end

set_option maxHeartbeats 2000000 in
theorem lives_any (w : World) (hsg : SigAt 0 w) : Ret Tryd.prog 10 [] w fun v w' => v = .bool true ∧ Chg [] w w' := by
  refine ret_of [] Tryd.func10 rfl Tryd.ntmps10 rfl ?_
  have st := St.init w []
  obtain ⟨w0, rfl⟩ : ∃ w0, w0 = w := ⟨_, rfl⟩
  refine vc_seq ?_
  refine vc_region ?_
  refine vc_y rfl rfl (y_as rfl) ?_
  refine vc_end ?_
  refine vq_then ?_
  refine vc_keep [] trivial ?_
  refine vc_seq ?_
  refine vc_region ?_
  refine vc_e (e_call [_] rfl rfl Tryd.call16 rfl (parse_any liveS _ (hsg.kept st.chg (by simp))) ?_)
  rintro _ w h
  rw [ParsePost, live_res] at h
  obtain ⟨cw, _, ⟨os, ol, ot, cs, cl, ct, Sq, rfl, hT, hN⟩, rfl⟩ := h
  replace st := st.pushR cw (holds_pg hT) hN.2
  refine vc_y rfl rfl (y_mv rfl) ?_
  refine vc_y rfl rfl (y_ext rfl rfl) ?_
  refine vc_y rfl rfl (y_ext rfl rfl) ?_
  refine vc_y rfl rfl (y_ext rfl rfl) ?_
  refine vc_e (e_al (l := [_, _, _]) st rfl rfl Tryd.zeroValue44 rfl ?_)
  intro b1 w hb1 st
  refine vc_e (e_al (l := [_, _]) st rfl rfl Tryd.zeroValue29 rfl ?_)
  intro b3 w hb3 st
  refine vc_e (e_sts (vs := [_, _, _]) st 1 rfl rfl rfl rfl rfl Tryd.sizeOf44 rfl rfl (by first | (right; assumption) | (left; simp)) ?_)
  intro w st; dsimp only [setNth, wr] at st
  refine vc_y rfl rfl (y_as rfl) ?_
  refine vc_e (e_sts (vs := [_, _]) st 0 rfl rfl rfl rfl rfl Tryd.sizeOf29 rfl rfl (by first | (right; assumption) | (left; simp)) ?_)
  intro w st; dsimp only [setNth, wr] at st
  refine vc_end ?_
  refine vq_then ?_
  refine vc_keep [(1, _), (2, _)] ⟨rfl, rfl, trivial⟩ ?_
  refine vc_seq ?_
  refine vc_region ?_
  refine vc_e (e_call [_] rfl rfl Tryd.call16 rfl (parse_any deadS _ (hsg.kept st.chg (by simp))) ?_)
  rintro _ w h
  rw [ParsePost, dead_res] at h
  obtain ⟨cw, _, ⟨os2, ol2, ot2, cs2, cl2, ct2, Sq2, rfl, -, -⟩, rfl⟩ := h
  replace st := st.call0 cw
  refine vc_y rfl rfl (y_mv rfl) ?_
  refine vc_y rfl rfl (y_ext rfl rfl) ?_
  refine vc_y rfl rfl (y_ext rfl rfl) ?_
  refine vc_y rfl rfl (y_ext rfl rfl) ?_
  refine vc_e (e_al (l := [_, _, _]) st rfl rfl Tryd.zeroValue44 rfl ?_)
  intro b4 w hb4 st
  refine vc_e (e_al (l := [_, _]) st rfl rfl Tryd.zeroValue29 rfl ?_)
  intro b6 w hb6 st
  refine vc_e (e_sts (vs := [_, _, _]) st 1 rfl rfl rfl rfl rfl Tryd.sizeOf44 rfl rfl (by first | (right; assumption) | (left; simp)) ?_)
  intro w st; dsimp only [setNth, wr] at st
  refine vc_y rfl rfl (y_as rfl) ?_
  refine vc_e (e_sts (vs := [_, _]) st 0 rfl rfl rfl rfl rfl Tryd.sizeOf29 rfl rfl (by first | (right; assumption) | (left; simp)) ?_)
  intro w st; dsimp only [setNth, wr] at st
  refine vc_end ?_
  refine vq_then ?_
  refine vc_keep [(1, _), (2, _), (5, _), (6, _)] ⟨rfl, rfl, rfl, rfl, trivial⟩ ?_
  refine vc_seq ?_
  refine vc_seq ?_
  refine vc_region ?_
  obtain ⟨hsh, -, hth⟩ := pgS_rows (st.res (i := 4) rfl).1
  obtain ⟨bs, fs, rfl, hds⟩ := DcRow.gets hsh (by decide)
  obtain ⟨bt, ft, rfl, hts⟩ := hth.gets (by decide)
  obtain ⟨_, ob, _, cb, hthc, -, hsm⟩ := hts 0 _ rfl
  obtain ⟨bb, fb, rfl, hss⟩ := hsm.gets (by decide)
  obtain ⟨oe, _, _, ce, _, _, hsc, hex, -⟩ := hss 0 _ rfl
  obtain ⟨be, fe, rfl, hes⟩ := hex.gets (by decide)
  obtain ⟨ok, ck, hec, hkd⟩ := hes 0 _ rfl
  obtain ⟨bk, fk, rfl, hks⟩ := hkd.gets (by decide)
  obtain ⟨_, _, hkc, -⟩ := hks 1 _ rfl
  refine vc_y rfl rfl (y_mv rfl) ?_
  refine vc_y rfl rfl (y_nei rfl rfl) ?_
  refine vc_e (e_mvb rfl rfl rfl ?_ ?_)
  · intro hg20
    exact absurd hg20 (by decide)
  · intro hg20
    try simp only [dn] at hg20
    refine vc_y rfl rfl (y_mv rfl) ?_
    refine vc_y rfl rfl (y_nei rfl rfl) ?_
    refine vc_y rfl rfl (y_pickf rfl rfl) ?_
    refine vc_e (e_mvb rfl rfl rfl ?_ ?_)
    · intro hg24
      exact absurd hg24 (by decide)
    · intro hg24
      try simp only [dn] at hg24
      refine vc_y rfl rfl ((by exact y_lda (vs := [_, _]) st 0 rfl Tryd.isAgg29 Tryd.sizeOf29 rfl rfl)) ?_
      refine vc_y rfl rfl (y_bld (.agg #[_, _]) [(0, _), (1, _)] rfl (fun w => by simp [Instr.build, go_sem] <;> repeat' constructor)) ?_
      refine vc_y rfl rfl (y_neF rfl rfl) ?_
      refine vc_y rfl rfl (y_pickf rfl rfl) ?_
      refine vc_e (e_mvb rfl rfl rfl ?_ ?_)
      · intro hg29
        exact absurd hg29 (by decide)
      · intro hg29
        try simp only [dn] at hg29
        refine vc_y rfl rfl ((by exact y_faz (k := 2) rfl Tryd.underlying44 rfl rfl Tryd.sizeOf42 rfl)) ?_
        refine vc_y rfl rfl ((by exact y_ld st 3 rfl Tryd.isAgg42 rfl rfl)) ?_
        refine vc_y rfl rfl (y_lensl rfl Tryd.underlying42) ?_
        refine vc_y rfl rfl (y_nei rfl rfl) ?_
        refine vc_y rfl rfl (y_pickf rfl rfl) ?_
        refine vc_e (e_mvb rfl rfl rfl ?_ ?_)
        · intro hg35
          exact absurd hg35 (by decide)
        · intro hg35
          try simp only [dn] at hg35
          refine vc_y rfl rfl ((by exact y_faz (k := 2) rfl Tryd.underlying44 rfl rfl Tryd.sizeOf42 rfl)) ?_
          refine vc_y rfl rfl ((by exact y_ld st 3 rfl Tryd.isAgg42 rfl rfl)) ?_
          refine vc_y rfl rfl ((by exact y_ia (k := 0) rfl rfl Tryd.underlying42 Tryd.sizeOf78 rfl (by decide))) ?_
          refine vc_y rfl rfl ((by exact y_fa (k := 2) rfl Tryd.underlying78 rfl rfl Tryd.sizeOf76 rfl)) ?_
          refine vc_y rfl rfl ((by exact y_ldc rfl Tryd.isAgg76 (hthc 2 _ rfl))) ?_
          refine vc_y rfl rfl (y_lensl rfl Tryd.underlying76) ?_
          refine vc_y rfl rfl (y_nei rfl rfl) ?_
          refine vc_y rfl rfl (y_pickf rfl rfl) ?_
          refine vc_e (e_mvb rfl rfl rfl ?_ ?_)
          · intro hg44
            exact absurd hg44 (by decide)
          · intro hg44
            try simp only [dn] at hg44
            refine vc_y rfl rfl (y_fa0 rfl Tryd.underlying44 rfl rfl Tryd.sizeOf41 rfl) ?_
            refine vc_y rfl rfl ((by exact y_ld st 3 rfl Tryd.isAgg41 rfl rfl)) ?_
            refine vc_y rfl rfl (y_lensl rfl Tryd.underlying41) ?_
            refine vc_y rfl rfl (y_nei rfl rfl) ?_
            refine vc_y rfl rfl (y_pickf rfl rfl) ?_
            refine vc_e (e_mvb rfl rfl rfl ?_ ?_)
            · intro hg50
              exact absurd hg50 (by decide)
            · intro hg50
              try simp only [dn] at hg50
              refine vc_y rfl rfl (y_fa0 rfl Tryd.underlying44 rfl rfl Tryd.sizeOf41 rfl) ?_
              refine vc_y rfl rfl ((by exact y_ld st 3 rfl Tryd.isAgg41 rfl rfl)) ?_
              refine vc_y rfl rfl ((by exact y_ia (k := 0) rfl rfl Tryd.underlying41 Tryd.sizeOf80 rfl (by decide))) ?_
              refine vc_y rfl rfl ((by exact y_fa (k := 1) rfl Tryd.underlying80 rfl rfl Tryd.sizeOf2 rfl)) ?_
              refine vc_y rfl rfl ((by exact y_ldc rfl Tryd.isAgg2 (hds 0 _ rfl 1 _ rfl))) ?_
              refine vc_y rfl rfl (y_nei rfl rfl) ?_
              refine vc_y rfl rfl (y_pickf rfl rfl) ?_
              refine vc_end ?_
              refine vq_then ?_
              refine vc_keep [(1, _), (57, _)] ⟨rfl, rfl, trivial⟩ ?_
              refine vc_ifs rfl ?_ ?_
              · intro hc57
                exact absurd hc57 (by decide)
              · intro hc57
                try simp only [dn] at hc57
                refine vc_code_skip ?_
                refine vq_then ?_
                refine vc_keep [(1, _)] ⟨rfl, trivial⟩ ?_
                refine vc_seq ?_
                refine vc_region ?_
                refine vc_y rfl rfl ((by exact y_faz (k := 2) rfl Tryd.underlying44 rfl rfl Tryd.sizeOf42 rfl)) ?_
                refine vc_y rfl rfl ((by exact y_ld st 3 rfl Tryd.isAgg42 rfl rfl)) ?_
                refine vc_y rfl rfl ((by exact y_ia (k := 0) rfl rfl Tryd.underlying42 Tryd.sizeOf78 rfl (by decide))) ?_
                refine vc_y rfl rfl ((by exact y_fa (k := 2) rfl Tryd.underlying78 rfl rfl Tryd.sizeOf76 rfl)) ?_
                refine vc_y rfl rfl ((by exact y_ldc rfl Tryd.isAgg76 (hthc 2 _ rfl))) ?_
                refine vc_y rfl rfl ((by exact y_ia (k := 0) rfl rfl Tryd.underlying76 Tryd.sizeOf83 rfl (by decide))) ?_
                refine vc_y rfl rfl ((by exact y_fa (k := 3) rfl Tryd.underlying83 rfl rfl Tryd.sizeOf24 rfl)) ?_
                refine vc_y rfl rfl ((by exact y_ldc rfl Tryd.isAgg24 (hsc 3 _ rfl))) ?_
                refine vc_y rfl rfl (y_as rfl) ?_
                refine vc_end ?_
                refine vq_then ?_
                refine vc_keep [(7, _)] ⟨rfl, trivial⟩ ?_
                refine vc_seq ?_
                refine vc_region ?_
                refine vc_y rfl rfl (y_mv rfl) ?_
                refine vc_y rfl rfl (y_lensl rfl Tryd.underlying24) ?_
                refine vc_y rfl rfl (y_eqi rfl rfl) ?_
                refine vc_e (e_mvb rfl rfl rfl ?_ ?_)
                · intro hg69
                  try simp only [dn] at hg69
                  refine vc_y rfl rfl (y_mv rfl) ?_
                  refine vc_y rfl rfl ((by exact y_ia (k := 0) rfl rfl Tryd.underlying24 Tryd.sizeOf26 rfl (by decide))) ?_
                  refine vc_y rfl rfl ((by exact y_fa (k := 1) rfl Tryd.underlying26 rfl rfl Tryd.sizeOf23 rfl)) ?_
                  refine vc_y rfl rfl ((by exact y_ldc rfl Tryd.isAgg23 (hec 1 _ rfl))) ?_
                  refine vc_y rfl rfl (y_eqi rfl rfl) ?_
                  refine vc_y rfl rfl (y_pickt rfl rfl) ?_
                  refine vc_e (e_mvb rfl rfl rfl ?_ ?_)
                  · intro hg76
                    try simp only [dn] at hg76
                    refine vc_y rfl rfl (y_mv rfl) ?_
                    refine vc_y rfl rfl ((by exact y_ia (k := 0) rfl rfl Tryd.underlying24 Tryd.sizeOf26 rfl (by decide))) ?_
                    refine vc_y rfl rfl ((by exact y_fa (k := 4) rfl Tryd.underlying26 rfl rfl Tryd.sizeOf24 rfl)) ?_
                    refine vc_y rfl rfl ((by exact y_ldc rfl Tryd.isAgg24 (hec 4 _ rfl))) ?_
                    refine vc_y rfl rfl (y_lensl rfl Tryd.underlying24) ?_
                    refine vc_y rfl rfl (y_eqi rfl rfl) ?_
                    refine vc_y rfl rfl (y_pickt rfl rfl) ?_
                    refine vc_e (e_mvb rfl rfl rfl ?_ ?_)
                    · intro hg84
                      try simp only [dn] at hg84
                      refine vc_y rfl rfl (y_mv rfl) ?_
                      refine vc_y rfl rfl ((by exact y_ia (k := 0) rfl rfl Tryd.underlying24 Tryd.sizeOf26 rfl (by decide))) ?_
                      refine vc_y rfl rfl ((by exact y_fa (k := 4) rfl Tryd.underlying26 rfl rfl Tryd.sizeOf24 rfl)) ?_
                      refine vc_y rfl rfl ((by exact y_ldc rfl Tryd.isAgg24 (hec 4 _ rfl))) ?_
                      refine vc_y rfl rfl ((by exact y_ia (k := 1) rfl rfl Tryd.underlying24 Tryd.sizeOf26 rfl (by decide))) ?_
                      refine vc_y rfl rfl ((by exact y_fa (k := 1) rfl Tryd.underlying26 rfl rfl Tryd.sizeOf23 rfl)) ?_
                      refine vc_y rfl rfl ((by exact y_ldc rfl Tryd.isAgg23 (hkc 1 _ rfl))) ?_
                      refine vc_y rfl rfl (y_eqi rfl rfl) ?_
                      refine vc_y rfl rfl (y_pickt rfl rfl) ?_
                      refine vc_y rfl rfl (y_as rfl) ?_
                      refine vc_end ?_
                      refine vq_then ?_
                      refine vc_keep [(0, _)] ⟨rfl, trivial⟩ ?_
                      refine vc_ret ?_
                      refine vq_ret1 st (.inl rfl) Tryd.results10 (.tmp rfl) ?_
                      refine ⟨_, rfl, ?_⟩
                      exact ⟨rfl, st.chg⟩
                    · intro hg84
                      exact absurd hg84 (by decide)
                  · intro hg76
                    exact absurd hg76 (by decide)
                · intro hg69
                  exact absurd hg69 (by decide)

end Go.Proofs.YtggnfanphcaamaaDoor


namespace Go.Proofs.YtggnfanphcaamaaDoor
open Go.RowKit Sx LexS
abbrev Sig (w : World) : Prop := SigAt 0 w
set_option linter.unusedVariables false
set_option linter.unusedSimpArgs false
/-! ## reading rows -/
theorem RowC.at {w : World} {S : Nat → Prop} {sz n : Nat} {oa : Option Addr} {vs : Nat → List Value} (h : RowC w S sz oa n vs) (hn : 0 < n) :
    ∃ b off, oa = some ⟨b, off, none⟩ ∧ S b ∧ b < w.heap.size ∧ ∀ j, j < n → (vs j).length = sz ∧ ∀ i v, (vs j)[i]? = some v → w.cell? ⟨b, off + j * sz + i, none⟩ = some v := by
  rcases h with h | h
  · omega
  · exact h
abbrev szo {α : Type} [SizeOf α] (x : α) : Nat := SizeOf.sizeOf x
theorem ex_size {k op wd : Int} {nm : List UInt8} {kids : List Ex} {a : Int} : szo kids < szo (Ex.mk k op wd nm kids a) := by
  simp only [szo, Ex.mk.sizeOf_spec]; omega
theorem mem_size {α : Type} [SizeOf α] {l : List α} {j : Nat} {x : α} (h : l[j]? = some x) : szo x < szo l := List.sizeOf_lt_of_mem (List.mem_of_getElem? h)
section
variable {w w' : World} {S : Nat → Prop} {M : List Nat}
/-- an expression's value -/
abbrev exL (e : Ex) (oa : Option Addr) (cap : Nat) : List Value := [.int .u8 e.k, .int .u8 e.op, .int .i64 e.wd, str e.nm, .slice oa e.kids.length cap, .int .i64 e.a]
theorem ExV.inv {e : Ex} {l : List Value} (h : ExV w S e l) : ∃ oa cap, l = exL e oa cap ∧ ExRow w S oa e.kids := by
  cases h with
  | mk vs hr hk => exact ⟨_, _, rfl, vs, hr, hk⟩
theorem ExRow.at {oa : Option Addr} {es : List Ex} (h : ExRow w S oa es) (hn : 0 < es.length) : ∃ b off, oa = some ⟨b, off, none⟩ ∧ S b ∧ b < w.heap.size ∧
    ∀ j x, es[j]? = some x → ∃ o c, ExV w S x (exL x o c) ∧ ExRow w S o x.kids ∧ ∀ i v, (exL x o c)[i]? = some v → w.cell? ⟨b, off + j * 6 + i, none⟩ = some v := by
  obtain ⟨vs, hr, hk⟩ := h
  obtain ⟨b, off, e, hb, hl, hc⟩ := RowC.at hr hn
  refine ⟨b, off, e, hb, hl, fun j x hx => ?_⟩
  have hx' := hk j x hx
  obtain ⟨o, c, e2, hr2⟩ := ExV.inv hx'
  have := (hc j (List.getElem?_eq_some_iff.1 hx).1).2
  rw [e2] at hx' this
  exact ⟨o, c, hx', hr2, this⟩
/-- a statement's value -/
abbrev smL (s : Sm) (oe ob ol : Option Addr) (ce cb cl : Nat) : List Value := [.int .u8 s.k, str s.nm, str s.other, .slice oe s.e.length ce, .slice ob s.body.length cb, .slice ol s.els.length cl, .int .i64 s.a]
theorem SmV.inv {s : Sm} {l : List Value} (h : SmV w S s l) : ∃ oe ob ol ce cb cl, l = smL s oe ob ol ce cb cl ∧ ExRow w S oe s.e ∧ SmRow w S ob s.body ∧ SmRow w S ol s.els := by
  cases h with
  | mk vb vl he hb hbk hl hlk => exact ⟨_, _, _, _, _, _, rfl, he, ⟨vb, hb, hbk⟩, ⟨vl, hl, hlk⟩⟩
theorem SmRow.at {oa : Option Addr} {es : List Sm} (h : SmRow w S oa es) (hn : 0 < es.length) : ∃ b off, oa = some ⟨b, off, none⟩ ∧ S b ∧ b < w.heap.size ∧
    ∀ j s, es[j]? = some s → ∃ oe ob ol ce cb cl, SmV w S s (smL s oe ob ol ce cb cl) ∧ ExRow w S oe s.e ∧ SmRow w S ob s.body ∧ SmRow w S ol s.els ∧ ∀ i v, (smL s oe ob ol ce cb cl)[i]? = some v → w.cell? ⟨b, off + j * 7 + i, none⟩ = some v := by
  obtain ⟨vs, hr, hk⟩ := h
  obtain ⟨b, off, e, hb, hl, hc⟩ := RowC.at hr hn
  refine ⟨b, off, e, hb, hl, fun j x hx => ?_⟩
  have hx' := hk j x hx
  obtain ⟨oe, ob, ol, ce, cb, cl, e2, h1, h2, h3⟩ := SmV.inv hx'
  have := (hc j (List.getElem?_eq_some_iff.1 hx).1).2
  rw [e2] at hx' this
  exact ⟨oe, ob, ol, ce, cb, cl, hx', h1, h2, h3, this⟩
theorem DcRow.at {oa : Option Addr} {ds : List Dc} (h : DcRow w S oa ds) (hn : 0 < ds.length) : ∃ b off, oa = some ⟨b, off, none⟩ ∧ S b ∧ b < w.heap.size ∧
    ∀ j x, ds[j]? = some x → ∀ i v, (dcL x)[i]? = some v → w.cell? ⟨b, off + j * 3 + i, none⟩ = some v := by
  obtain ⟨b, off, e, hb, hl, hc⟩ := RowC.at h hn
  refine ⟨b, off, e, hb, hl, fun j x hx => ?_⟩
  have hj := (List.getElem?_eq_some_iff.1 hx).1
  have := (hc j hj).2
  simp only [List.getD, hx, Option.getD_some] at this
  exact this
abbrev thL (t : Th) (ol ob : Option Addr) (cl cb : Nat) : List Value := [str t.nm, .slice ol t.locals.length cl, .slice ob t.body.length cb, .int .i64 t.a]
theorem ThRow.at {oa : Option Addr} {ts : List Th} (h : ThRow w S oa ts) (hn : 0 < ts.length) : ∃ b off, oa = some ⟨b, off, none⟩ ∧ S b ∧ b < w.heap.size ∧
    ∀ j t, ts[j]? = some t → ∃ ol ob cl cb, DcRow w S ol t.locals ∧ SmRow w S ob t.body ∧ ∀ i v, (thL t ol ob cl cb)[i]? = some v → w.cell? ⟨b, off + j * 4 + i, none⟩ = some v := by
  obtain ⟨vs, hr, hk⟩ := h
  obtain ⟨b, off, e, hb, hl, hc⟩ := RowC.at hr hn
  refine ⟨b, off, e, hb, hl, fun j x hx => ?_⟩
  obtain ⟨ol, cl, ob, cb, e2, h1, h2⟩ := hk j x hx
  have := (hc j (List.getElem?_eq_some_iff.1 hx).1).2
  rw [e2] at this
  exact ⟨ol, ob, cl, cb, h1, h2, this⟩
end
theorem szo_kids (e : Ex) : szo e.kids < szo e := by cases e; exact ex_size
end Go.Proofs.YtggnfanphcaamaaDoor


namespace Go.Proofs.YtggnfanphcaamaaDoor
open Go.RowKit Sx LexS
set_option linter.unusedVariables false
set_option linter.unusedSimpArgs false
section
variable {n : Fr} {kn : Kn} {w : World} {d ty : Nat} {pos : String} {aft : Array Edge} {g : Option (Nat × Bool)}
end
end Go.Proofs.YtggnfanphcaamaaDoor


namespace Go.Proofs.YtggnfanphcaamaaDoor
open Go.RowKit Sx LexS
set_option linter.unusedVariables false
set_option linter.unusedSimpArgs false
section
variable {S : Nat → Prop}

theorem rsameE_any (e y : Ex) (o o' : Option Addr) (c c' : Nat) (w : World) (hr : ExRow w S o e.kids) (hr' : ExRow w S o' y.kids)
    (hrec : ∀ w, ExRow w S o e.kids → ExRow w S o' y.kids → Ret Tryd.prog 35 [.slice o e.kids.length c, .slice o' y.kids.length c'] w fun v w' => v = .bool (zipA sameE e.kids y.kids) ∧ Chg [] w w') :
    Ret Tryd.prog 11 [.agg (exL e o c).toArray, .agg (exL y o' c').toArray] w fun v w' => v = .bool (sameE e y) ∧ Chg [] w w' := by
  refine ret_of [_, _] Tryd.func11 rfl Tryd.ntmps11 rfl ?_
  have st := St.init w []
  obtain ⟨w0, rfl⟩ : ∃ w0, w0 = w := ⟨_, rfl⟩
  refine vc_seq ?_
  refine vc_region ?_
  refine vc_e (e_bx (l := [_, _, _, _, _, _]) st rfl rfl rfl rfl ?_)
  intro b2 w hb2 st
  refine vc_e (e_bx (l := [_, _, _, _, _, _]) st rfl rfl rfl rfl ?_)
  intro b3 w hb3 st
  refine vc_y rfl rfl (y_as rfl) ?_
  refine vc_end ?_
  refine vq_then ?_
  refine vc_keep [(2, _), (3, _)] ⟨rfl, rfl, trivial⟩ ?_
  refine vc_seq ?_
  refine vc_seq ?_
  refine vc_region ?_
  refine vc_y rfl rfl (y_fa0 rfl Tryd.underlying26 rfl rfl Tryd.sizeOf22 rfl) ?_
  refine vc_y rfl rfl ((by exact y_ld st 1 rfl Tryd.isAgg22 rfl rfl)) ?_
  refine vc_y rfl rfl (y_fa0 rfl Tryd.underlying26 rfl rfl Tryd.sizeOf22 rfl) ?_
  refine vc_y rfl rfl ((by exact y_ld st 0 rfl Tryd.isAgg22 rfl rfl)) ?_
  refine vc_y rfl rfl (y_nei rfl rfl) ?_
  refine vc_e (e_mvb rfl rfl rfl ?_ ?_)
  · intro hg10
    try simp only [dn] at hg10
    refine vc_e (e_skip rfl rfl ?_)
    refine vc_e (e_skip rfl rfl ?_)
    refine vc_e (e_skip rfl rfl ?_)
    refine vc_e (e_skip rfl rfl ?_)
    refine vc_e (e_skip rfl rfl ?_)
    refine vc_y rfl rfl (y_pickt rfl rfl) ?_
    refine vc_y rfl rfl (y_mv rfl) ?_
    refine vc_e (e_skip rfl rfl ?_)
    refine vc_e (e_skip rfl rfl ?_)
    refine vc_e (e_skip rfl rfl ?_)
    refine vc_e (e_skip rfl rfl ?_)
    refine vc_e (e_skip rfl rfl ?_)
    refine vc_y rfl rfl (y_pickt rfl rfl) ?_
    refine vc_y rfl rfl (y_mv rfl) ?_
    refine vc_e (e_skip rfl rfl ?_)
    refine vc_e (e_skip rfl rfl ?_)
    refine vc_e (e_skip rfl rfl ?_)
    refine vc_e (e_skip rfl rfl ?_)
    refine vc_e (e_skip rfl rfl ?_)
    refine vc_y rfl rfl (y_pickt rfl rfl) ?_
    refine vc_end ?_
    refine vq_then ?_
    refine vc_keep [(2, _), (3, _), (30, _)] ⟨rfl, rfl, rfl, trivial⟩ ?_
    refine vc_ift rfl ?_
    refine vc_seq ?_
    refine vc_region ?_
    refine vc_y rfl rfl (y_as rfl) ?_
    refine vc_end ?_
    refine vq_then ?_
    refine vc_keep [(4, _)] ⟨rfl, trivial⟩ ?_
    refine vc_ret ?_
    refine vq_then_ret ?_
    refine vq_ret1 st (.inl rfl) Tryd.results11 (.tmp rfl) ?_
    refine ⟨_, rfl, ?_⟩
    refine ⟨?_, st.chg⟩
    rw [sameE_eq]
    first
      | (rw [show decide (e.k = y.k ∧ e.op = y.op ∧ e.wd = y.wd ∧ e.nm = y.nm) = false from by
          simp only [decide_eq_false_iff_not]
          rintro ⟨q1, q2, q3, q4⟩
          simp_all]
         rfl)
      | (rw [show decide (e.k = y.k ∧ e.op = y.op ∧ e.wd = y.wd ∧ e.nm = y.nm) = true from by simp_all, Bool.true_and])
  · intro hg10
    try simp only [dn] at hg10
    refine vc_y rfl rfl ((by exact y_faz (k := 1) rfl Tryd.underlying26 rfl rfl Tryd.sizeOf23 rfl)) ?_
    refine vc_y rfl rfl ((by exact y_ld st 1 rfl Tryd.isAgg23 rfl rfl)) ?_
    refine vc_y rfl rfl ((by exact y_faz (k := 1) rfl Tryd.underlying26 rfl rfl Tryd.sizeOf23 rfl)) ?_
    refine vc_y rfl rfl ((by exact y_ld st 0 rfl Tryd.isAgg23 rfl rfl)) ?_
    refine vc_y rfl rfl (y_nei rfl rfl) ?_
    refine vc_y rfl rfl (y_pickf rfl rfl) ?_
    refine vc_e (e_mvb rfl rfl rfl ?_ ?_)
    · intro hg17
      try simp only [dn] at hg17
      refine vc_e (e_skip rfl rfl ?_)
      refine vc_e (e_skip rfl rfl ?_)
      refine vc_e (e_skip rfl rfl ?_)
      refine vc_e (e_skip rfl rfl ?_)
      refine vc_e (e_skip rfl rfl ?_)
      refine vc_y rfl rfl (y_pickt rfl rfl) ?_
      refine vc_y rfl rfl (y_mv rfl) ?_
      refine vc_e (e_skip rfl rfl ?_)
      refine vc_e (e_skip rfl rfl ?_)
      refine vc_e (e_skip rfl rfl ?_)
      refine vc_e (e_skip rfl rfl ?_)
      refine vc_e (e_skip rfl rfl ?_)
      refine vc_y rfl rfl (y_pickt rfl rfl) ?_
      refine vc_end ?_
      refine vq_then ?_
      refine vc_keep [(2, _), (3, _), (30, _)] ⟨rfl, rfl, rfl, trivial⟩ ?_
      refine vc_ift rfl ?_
      refine vc_seq ?_
      refine vc_region ?_
      refine vc_y rfl rfl (y_as rfl) ?_
      refine vc_end ?_
      refine vq_then ?_
      refine vc_keep [(4, _)] ⟨rfl, trivial⟩ ?_
      refine vc_ret ?_
      refine vq_then_ret ?_
      refine vq_ret1 st (.inl rfl) Tryd.results11 (.tmp rfl) ?_
      refine ⟨_, rfl, ?_⟩
      refine ⟨?_, st.chg⟩
      rw [sameE_eq]
      first
        | (rw [show decide (e.k = y.k ∧ e.op = y.op ∧ e.wd = y.wd ∧ e.nm = y.nm) = false from by
            simp only [decide_eq_false_iff_not]
            rintro ⟨q1, q2, q3, q4⟩
            simp_all]
           rfl)
        | (rw [show decide (e.k = y.k ∧ e.op = y.op ∧ e.wd = y.wd ∧ e.nm = y.nm) = true from by simp_all, Bool.true_and])
    · intro hg17
      try simp only [dn] at hg17
      refine vc_y rfl rfl ((by exact y_faz (k := 2) rfl Tryd.underlying26 rfl rfl Tryd.sizeOf2 rfl)) ?_
      refine vc_y rfl rfl ((by exact y_ld st 1 rfl Tryd.isAgg2 rfl rfl)) ?_
      refine vc_y rfl rfl ((by exact y_faz (k := 2) rfl Tryd.underlying26 rfl rfl Tryd.sizeOf2 rfl)) ?_
      refine vc_y rfl rfl ((by exact y_ld st 0 rfl Tryd.isAgg2 rfl rfl)) ?_
      refine vc_y rfl rfl (y_nei rfl rfl) ?_
      refine vc_y rfl rfl (y_pickf rfl rfl) ?_
      refine vc_e (e_mvb rfl rfl rfl ?_ ?_)
      · intro hg24
        try simp only [dn] at hg24
        refine vc_e (e_skip rfl rfl ?_)
        refine vc_e (e_skip rfl rfl ?_)
        refine vc_e (e_skip rfl rfl ?_)
        refine vc_e (e_skip rfl rfl ?_)
        refine vc_e (e_skip rfl rfl ?_)
        refine vc_y rfl rfl (y_pickt rfl rfl) ?_
        refine vc_end ?_
        refine vq_then ?_
        refine vc_keep [(2, _), (3, _), (30, _)] ⟨rfl, rfl, rfl, trivial⟩ ?_
        refine vc_ift rfl ?_
        refine vc_seq ?_
        refine vc_region ?_
        refine vc_y rfl rfl (y_as rfl) ?_
        refine vc_end ?_
        refine vq_then ?_
        refine vc_keep [(4, _)] ⟨rfl, trivial⟩ ?_
        refine vc_ret ?_
        refine vq_then_ret ?_
        refine vq_ret1 st (.inl rfl) Tryd.results11 (.tmp rfl) ?_
        refine ⟨_, rfl, ?_⟩
        refine ⟨?_, st.chg⟩
        rw [sameE_eq]
        first
          | (rw [show decide (e.k = y.k ∧ e.op = y.op ∧ e.wd = y.wd ∧ e.nm = y.nm) = false from by
              simp only [decide_eq_false_iff_not]
              rintro ⟨q1, q2, q3, q4⟩
              simp_all]
             rfl)
          | (rw [show decide (e.k = y.k ∧ e.op = y.op ∧ e.wd = y.wd ∧ e.nm = y.nm) = true from by simp_all, Bool.true_and])
      · intro hg24
        try simp only [dn] at hg24
        refine vc_y rfl rfl ((by exact y_faz (k := 3) rfl Tryd.underlying26 rfl rfl Tryd.sizeOf9 rfl)) ?_
        refine vc_y rfl rfl ((by exact y_ld st 1 rfl Tryd.isAgg9 rfl rfl)) ?_
        refine vc_y rfl rfl ((by exact y_faz (k := 3) rfl Tryd.underlying26 rfl rfl Tryd.sizeOf9 rfl)) ?_
        refine vc_y rfl rfl ((by exact y_ld st 0 rfl Tryd.isAgg9 rfl rfl)) ?_
        refine vc_y rfl rfl (y_nes rfl rfl) ?_
        refine vc_y rfl rfl (y_pickf rfl rfl) ?_
        refine vc_end ?_
        refine vq_then ?_
        refine vc_keep [(2, _), (3, _), (30, _)] ⟨rfl, rfl, rfl, trivial⟩ ?_
        refine vc_ifs rfl ?_ ?_
        · intro hc30
          try simp only [dn] at hc30
          refine vc_seq ?_
          refine vc_region ?_
          refine vc_y rfl rfl (y_as rfl) ?_
          refine vc_end ?_
          refine vq_then ?_
          refine vc_keep [(4, _)] ⟨rfl, trivial⟩ ?_
          refine vc_ret ?_
          refine vq_then_ret ?_
          refine vq_ret1 st (.inl rfl) Tryd.results11 (.tmp rfl) ?_
          refine ⟨_, rfl, ?_⟩
          refine ⟨?_, st.chg⟩
          rw [sameE_eq]
          first
            | (rw [show decide (e.k = y.k ∧ e.op = y.op ∧ e.wd = y.wd ∧ e.nm = y.nm) = false from by
                simp only [decide_eq_false_iff_not]
                rintro ⟨q1, q2, q3, q4⟩
                simp_all]
               rfl)
            | (rw [show decide (e.k = y.k ∧ e.op = y.op ∧ e.wd = y.wd ∧ e.nm = y.nm) = true from by simp_all, Bool.true_and])
        · intro hc30
          try simp only [dn] at hc30
          refine vc_code_skip ?_
          refine vq_then ?_
          refine vc_keep [(2, _), (3, _)] ⟨rfl, rfl, trivial⟩ ?_
          refine vc_seq ?_
          refine vc_region ?_
          refine vc_y rfl rfl ((by exact y_faz (k := 4) rfl Tryd.underlying26 rfl rfl Tryd.sizeOf24 rfl)) ?_
          refine vc_y rfl rfl ((by exact y_ld st 1 rfl Tryd.isAgg24 rfl rfl)) ?_
          refine vc_y rfl rfl ((by exact y_faz (k := 4) rfl Tryd.underlying26 rfl rfl Tryd.sizeOf24 rfl)) ?_
          refine vc_y rfl rfl ((by exact y_ld st 0 rfl Tryd.isAgg24 rfl rfl)) ?_
          refine vc_e (e_call [_, _] rfl rfl Tryd.call35 rfl (hrec _ (hr.kept (Same.of_nil st.chg)) (hr'.kept (Same.of_nil st.chg))) ?_)
          rintro _ w ⟨rfl, cw⟩
          replace st := st.call0 cw
          refine vc_y rfl rfl (y_as rfl) ?_
          refine vc_end ?_
          refine vq_then ?_
          refine vc_keep [(4, _)] ⟨rfl, trivial⟩ ?_
          refine vc_ret ?_
          refine vq_ret1 st (.inl rfl) Tryd.results11 (.tmp rfl) ?_
          refine ⟨_, rfl, ?_⟩
          refine ⟨?_, st.chg⟩
          rw [sameE_eq]
          first
            | (rw [show decide (e.k = y.k ∧ e.op = y.op ∧ e.wd = y.wd ∧ e.nm = y.nm) = false from by
                simp only [decide_eq_false_iff_not]
                rintro ⟨q1, q2, q3, q4⟩
                simp_all]
               rfl)
            | (rw [show decide (e.k = y.k ∧ e.op = y.op ∧ e.wd = y.wd ∧ e.nm = y.nm) = true from by simp_all, Bool.true_and])

theorem rexprsS_any : ∀ (n : Nat) (a : List Ex), szo a = n → OkEs a → ∀ (b : List Ex) (oa ob : Option Addr) (ca cb : Nat) (w : World), ExRow w S oa a → ExRow w S ob b →
    Ret Tryd.prog 35 [.slice oa a.length ca, .slice ob b.length cb] w fun v w' => v = .bool (zipA sameE a b) ∧ Chg [] w w' := by
  intro n
  refine Nat.strongRecOn n fun n ih => ?_
  intro a hn hok b oa ob ca cb w hA hB
  subst hn
  have hn := hok.1
  refine ret_of [_, _] Tryd.func35 rfl Tryd.ntmps35 rfl ?_
  have st := St.init w []
  obtain ⟨w0, rfl⟩ : ∃ w0, w0 = w := ⟨_, rfl⟩
  refine vc_seq ?_
  refine vc_region ?_
  refine vc_y rfl rfl (y_as rfl) ?_
  refine vc_end ?_
  refine vq_then ?_
  refine vc_keep [(0, _), (1, _)] ⟨rfl, rfl, trivial⟩ ?_
  refine vc_seq ?_
  refine vc_seq ?_
  refine vc_region ?_
  refine vc_y rfl rfl (y_mv rfl) ?_
  refine vc_y rfl rfl (y_lensl rfl Tryd.underlying24) ?_
  refine vc_y rfl rfl (y_mv rfl) ?_
  refine vc_y rfl rfl (y_lensl rfl Tryd.underlying24) ?_
  refine vc_y rfl rfl (y_nei rfl rfl) ?_
  refine vc_end ?_
  refine vq_then ?_
  refine vc_keep [(0, _), (1, _), (10, _)] ⟨rfl, rfl, rfl, trivial⟩ ?_
  refine vc_ifs rfl ?_ ?_
  · intro hc10
    try simp only [dn] at hc10
    refine vc_seq ?_
    refine vc_region ?_
    refine vc_y rfl rfl (y_as rfl) ?_
    refine vc_end ?_
    refine vq_then ?_
    refine vc_keep [(4, _)] ⟨rfl, trivial⟩ ?_
    refine vc_ret ?_
    refine vq_then_ret ?_
    refine vq_ret1 st (.inl rfl) Tryd.results35 (.tmp rfl) ?_
    refine ⟨_, rfl, ?_⟩
    refine ⟨?_, st.chg⟩
    rw [zipA_len (by omega)]
  · intro hc10
    try simp only [dn] at hc10
    have hlen : a.length = b.length := by omega
    refine vc_code_skip ?_
    refine vq_then ?_
    refine vc_keep [(0, _), (1, _)] ⟨rfl, rfl, trivial⟩ ?_
    refine vc_seq ?_
    refine vc_seq ?_
    refine vc_region ?_
    refine vc_y rfl rfl (y_mv rfl) ?_
    refine vc_y rfl rfl (y_lensl rfl Tryd.underlying24) ?_
    refine vc_y rfl rfl (y_mv rfl) ?_
    refine vc_end ?_
    refine vq_then ?_
    refine vc_keep [(0, _), (1, _), (12, _), (13, _)] ⟨rfl, rfl, rfl, rfl, trivial⟩ ?_
    refine vc_block ?_
    refine vc_loop (w0 := w0) (M := []) (fun (j : Nat) => [(0, .slice oa a.length ca), (1, .slice ob b.length cb), (12, .int .i64 (a.length : Int)), (13, .int .i64 (j : Int))]) (fun _ => []) (fun j _ => j ≤ a.length ∧ ∀ (i : Nat) x y, i < j → a[i]? = some x → b[i]? = some y → sameE x y = true) (fun j => a.length - j) 0 ⟨rfl, rfl, rfl, rfl, trivial⟩ (st.drop (by repeat (first | exact sl0 | apply sl1 | apply sl2))) ⟨by omega, fun i x y h => by omega⟩ ?_
    clear st
    rintro j w ⟨hj, hall⟩ st
    refine vc_seq ?_
    refine vc_region ?_
    refine vc_y rfl rfl (y_lss rfl rfl) ?_
    refine vc_end ?_
    refine vq_then ?_
    refine vc_keep [(0, _), (1, _), (12, _), (13, _), (14, _)] ⟨rfl, rfl, rfl, rfl, rfl, trivial⟩ ?_
    refine vc_seq ?_
    refine vc_ifs rfl ?_ ?_
    · intro hc14
      try simp only [dn] at hc14
      obtain ⟨x, hx⟩ : ∃ x, a[j]? = some x := ⟨_, List.getElem?_eq_getElem (by omega)⟩
      obtain ⟨y, hy⟩ : ∃ y, b[j]? = some y := ⟨_, List.getElem?_eq_getElem (by omega)⟩
      obtain ⟨gb, go, rfl, hgS, hgl, hg⟩ := ExRow.at hA (by omega)
      obtain ⟨fb, fo, rfl, hfS, hfl, hf⟩ := ExRow.at hB (by omega)
      obtain ⟨o0, c0, hV0, hr0, hc⟩ := hg j x hx
      obtain ⟨o1, c1, hV1, hr1, hd⟩ := hf j y hy
      have hkx := hok.2 j x hx
      have hz := mem_size hx
      have hz2 : szo x.kids < szo a := by have := szo_kids x; omega
      refine vc_code_skip ?_
      refine vq_then ?_
      refine vc_keep [(0, _), (1, _), (12, _), (13, _)] ⟨rfl, rfl, rfl, rfl, trivial⟩ ?_
      refine vc_seq ?_
      refine vc_block ?_
      refine vc_seq ?_
      refine vc_region ?_
      refine vc_y rfl rfl (y_mv rfl) ?_
      refine vc_y rfl rfl (y_as rfl) ?_
      refine vc_end ?_
      refine vq_then ?_
      refine vc_keep [(0, _), (1, _), (5, _), (12, _), (13, _)] ⟨rfl, rfl, rfl, rfl, rfl, trivial⟩ ?_
      refine vc_seq ?_
      refine vc_draw Tryd.mixed [(0, true), (1, true), (2, true), (3, true), (4, true), (5, true), (6, true), (7, true), (8, false), (9, true)] (fun w => St _ _ _ w) st (by kernel_rfl) (by repeat (first | exact okQ_body | refine okQ_then ?_ | refine okQ_block ?_)) rfl (by kernel_rfl) ?_
      intro w cd; replace st := st.call0 cd; clear cd
      have hS := st
      refine vp_take rfl rfl rfl hS (fun w st => y_mv rfl) ?_
      refine vp_take rfl rfl rfl hS (fun w st => y_mv rfl) ?_
      refine vp_take rfl rfl rfl hS (fun w st => (by exact y_ia (k := j) rfl rfl Tryd.underlying24 Tryd.sizeOf26 rfl (by omega))) ?_
      refine vp_take rfl rfl rfl hS (fun w st => (by exact y_ldca (exL x o0 c0) rfl Tryd.isAgg26 Tryd.sizeOf26 rfl (fun i v hi => st.chg.cell (hc i v hi) (by simp)))) ?_
      refine vp_take rfl rfl rfl hS (fun w st => y_mv rfl) ?_
      refine vp_take rfl rfl rfl hS (fun w st => y_mv rfl) ?_
      refine vp_take rfl rfl rfl hS (fun w st => (by exact y_ia (k := j) rfl rfl Tryd.underlying24 Tryd.sizeOf26 rfl (by omega))) ?_
      refine vp_take rfl rfl rfl hS (fun w st => (by exact y_ldca (exL y o1 c1) rfl Tryd.isAgg26 Tryd.sizeOf26 rfl (fun i v hi => st.chg.cell (hd i v hi) (by simp)))) ?_
      refine vp_do rfl (e_call [_, _] rfl rfl Tryd.call11 rfl (rsameE_any x y o0 o1 c0 c1 _ (hr0.kept (Same.of_nil st.chg)) (hr1.kept (Same.of_nil st.chg)) (fun w h1 h2 => ih _ hz2 x.kids rfl hkx.kids y.kids _ _ _ _ w h1 h2)) ?_)
      rintro _ w ⟨rfl, cw⟩
      replace st := st.call0 cw
      refine vp_next (by exact st) ?_; intro hS
      refine vp_take rfl rfl rfl hS (fun w st => y_not rfl) ?_
      refine vp_end ?_
      refine vq_then ?_
      refine vc_keep [(0, _), (1, _), (12, _), (13, _), (25, _)] ⟨rfl, rfl, rfl, rfl, rfl, trivial⟩ ?_
      refine vc_ifs rfl ?_ ?_
      · intro hc25
        try simp only [dn] at hc25
        refine vc_seq ?_
        refine vc_region ?_
        refine vc_y rfl rfl (y_as rfl) ?_
        refine vc_end ?_
        refine vq_then ?_
        refine vc_keep [(4, _)] ⟨rfl, trivial⟩ ?_
        refine vc_ret ?_
        refine vq_block_ret ?_
        refine vq_then_ret ?_
        refine vq_then_ret ?_
        refine vq_block_ret ?_
        refine vq_then_ret ?_
        refine vq_ret1 st (.inl rfl) Tryd.results35 (.tmp rfl) ?_
        refine ⟨_, rfl, ?_⟩
        refine ⟨?_, st.chg⟩
        rw [zipA_no hx hy (by assumption)]
      · intro hc25
        try simp only [dn] at hc25
        refine vc_code_skip ?_
        refine vq_block ?_
        refine vq_then ?_
        refine vc_keep [(0, _), (1, _), (12, _), (13, _)] ⟨rfl, rfl, rfl, rfl, trivial⟩ ?_
        refine vc_region ?_
        refine vc_y rfl rfl (y_add rfl rfl (by omega : _ = ((j + 1 : Nat) : Int)) (by omega) (by omega)) ?_
        refine vc_y rfl rfl (y_mv rfl) ?_
        refine vc_end ?_
        refine vq_again (j + 1)  ⟨rfl, rfl, rfl, rfl, trivial⟩ (st.drop (by repeat (first | exact sl0 | apply sl1 | apply sl2))) ?_ ?_
        · exact ⟨by omega, fun i x' y' hi h1 h2 => by
            rcases (by omega : i < j ∨ i = j) with h | rfl
            · exact hall i x' y' h h1 h2
            · rw [hx] at h1; rw [hy] at h2; cases h1; cases h2; assumption⟩
        · omega
    · intro hc14
      try simp only [dn] at hc14
      refine vc_exit ?_
      refine vq_then_exit ?_
      refine vq_then_exit ?_
      refine vq_block_exit ?_
      refine vq_then ?_
      refine vc_keep [] trivial ?_
      refine vc_seq ?_
      refine vc_region ?_
      refine vc_y rfl rfl (y_as rfl) ?_
      refine vc_end ?_
      refine vq_then ?_
      refine vc_keep [(4, _)] ⟨rfl, trivial⟩ ?_
      refine vc_ret ?_
      refine vq_ret1 st (.inl rfl) Tryd.results35 (.tmp rfl) ?_
      refine ⟨_, rfl, ?_⟩
      refine ⟨?_, st.chg⟩
      rw [zipA_yes hlen fun i x y hi h1 h2 => hall i x y (by omega) h1 h2]

theorem rplaces_any : ∀ (n : Nat) (a : List Ex), szo a = n → OkEs a → ∀ (b : List Ex) (oa ob : Option Addr) (ca cb : Nat) (w : World), ExRow w S oa a → ExRow w S ob b →
    Ret Tryd.prog 12 [.slice oa a.length ca, .slice ob b.length cb] w fun v w' => v = .bool (zipA plE a b) ∧ Chg [] w w' := by
  intro n
  refine Nat.strongRecOn n fun n ih => ?_
  intro a hn hok b oa ob ca cb w hA hB
  subst hn
  have hn := hok.1
  refine ret_of [_, _] Tryd.func12 rfl Tryd.ntmps12 rfl ?_
  have st := St.init w []
  obtain ⟨w0, rfl⟩ : ∃ w0, w0 = w := ⟨_, rfl⟩
  refine vc_seq ?_
  refine vc_region ?_
  refine vc_y rfl rfl (y_as rfl) ?_
  refine vc_end ?_
  refine vq_then ?_
  refine vc_keep [(0, _), (1, _)] ⟨rfl, rfl, trivial⟩ ?_
  refine vc_seq ?_
  refine vc_seq ?_
  refine vc_region ?_
  refine vc_y rfl rfl (y_mv rfl) ?_
  refine vc_y rfl rfl (y_lensl rfl Tryd.underlying24) ?_
  refine vc_y rfl rfl (y_mv rfl) ?_
  refine vc_y rfl rfl (y_lensl rfl Tryd.underlying24) ?_
  refine vc_y rfl rfl (y_nei rfl rfl) ?_
  refine vc_end ?_
  refine vq_then ?_
  refine vc_keep [(0, _), (1, _), (10, _)] ⟨rfl, rfl, rfl, trivial⟩ ?_
  refine vc_ifs rfl ?_ ?_
  · intro hc10
    try simp only [dn] at hc10
    refine vc_seq ?_
    refine vc_region ?_
    refine vc_y rfl rfl (y_as rfl) ?_
    refine vc_end ?_
    refine vq_then ?_
    refine vc_keep [(4, _)] ⟨rfl, trivial⟩ ?_
    refine vc_ret ?_
    refine vq_then_ret ?_
    refine vq_ret1 st (.inl rfl) Tryd.results12 (.tmp rfl) ?_
    refine ⟨_, rfl, ?_⟩
    refine ⟨?_, st.chg⟩
    rw [zipA_len (by omega)]
  · intro hc10
    try simp only [dn] at hc10
    have hlen : a.length = b.length := by omega
    refine vc_code_skip ?_
    refine vq_then ?_
    refine vc_keep [(0, _), (1, _)] ⟨rfl, rfl, trivial⟩ ?_
    refine vc_seq ?_
    refine vc_seq ?_
    refine vc_region ?_
    refine vc_y rfl rfl (y_mv rfl) ?_
    refine vc_y rfl rfl (y_lensl rfl Tryd.underlying24) ?_
    refine vc_y rfl rfl (y_mv rfl) ?_
    refine vc_end ?_
    refine vq_then ?_
    refine vc_keep [(0, _), (1, _), (12, _), (13, _)] ⟨rfl, rfl, rfl, rfl, trivial⟩ ?_
    refine vc_block ?_
    refine vc_loop (w0 := w0) (M := []) (fun (j : Nat) => [(0, .slice oa a.length ca), (1, .slice ob b.length cb), (12, .int .i64 (a.length : Int)), (13, .int .i64 (j : Int))]) (fun _ => []) (fun j _ => j ≤ a.length ∧ ∀ (i : Nat) x y, i < j → a[i]? = some x → b[i]? = some y → plE x y = true) (fun j => a.length - j) 0 ⟨rfl, rfl, rfl, rfl, trivial⟩ (st.drop (by repeat (first | exact sl0 | apply sl1 | apply sl2))) ⟨by omega, fun i x y h => by omega⟩ ?_
    clear st
    rintro j w ⟨hj, hall⟩ st
    refine vc_seq ?_
    refine vc_region ?_
    refine vc_y rfl rfl (y_lss rfl rfl) ?_
    refine vc_end ?_
    refine vq_then ?_
    refine vc_keep [(0, _), (1, _), (12, _), (13, _), (14, _)] ⟨rfl, rfl, rfl, rfl, rfl, trivial⟩ ?_
    refine vc_seq ?_
    refine vc_ifs rfl ?_ ?_
    · intro hc14
      try simp only [dn] at hc14
      obtain ⟨x, hx⟩ : ∃ x, a[j]? = some x := ⟨_, List.getElem?_eq_getElem (by omega)⟩
      obtain ⟨y, hy⟩ : ∃ y, b[j]? = some y := ⟨_, List.getElem?_eq_getElem (by omega)⟩
      obtain ⟨gb, go, rfl, hgS, hgl, hg⟩ := ExRow.at hA (by omega)
      obtain ⟨fb, fo, rfl, hfS, hfl, hf⟩ := ExRow.at hB (by omega)
      obtain ⟨o0, c0, hV0, hr0, hc⟩ := hg j x hx
      obtain ⟨o1, c1, hV1, hr1, hd⟩ := hf j y hy
      have hkx := hok.2 j x hx
      have hz := mem_size hx
      have hz2 : szo x.kids < szo a := by have := szo_kids x; omega
      refine vc_code_skip ?_
      refine vq_then ?_
      refine vc_keep [(0, _), (1, _), (12, _), (13, _)] ⟨rfl, rfl, rfl, rfl, trivial⟩ ?_
      refine vc_seq ?_
      refine vc_block ?_
      refine vc_seq ?_
      refine vc_region ?_
      refine vc_y rfl rfl (y_mv rfl) ?_
      refine vc_y rfl rfl (y_as rfl) ?_
      refine vc_end ?_
      refine vq_then ?_
      refine vc_keep [(0, _), (1, _), (5, _), (12, _), (13, _)] ⟨rfl, rfl, rfl, rfl, rfl, trivial⟩ ?_
      refine vc_seq ?_
      refine vc_draw Tryd.mixed [(0, true), (1, true), (2, true), (3, true), (4, true), (5, true), (6, true), (7, true), (8, true), (9, true), (10, true), (11, true), (12, true), (13, true), (14, true), (15, true), (16, true), (17, true), (18, true), (19, true), (20, true), (21, true), (22, false), (23, true), (24, true)] (fun w => St _ _ _ w) st (by kernel_rfl) (by repeat (first | exact okQ_body | refine okQ_then ?_ | refine okQ_block ?_)) rfl (by kernel_rfl) ?_
      intro w cd; replace st := st.call0 cd; clear cd
      have hS := st
      refine vp_take rfl rfl rfl hS (fun w st => y_mv rfl) ?_
      refine vp_take rfl rfl rfl hS (fun w st => y_mv rfl) ?_
      refine vp_take rfl rfl rfl hS (fun w st => (by exact y_ia (k := j) rfl rfl Tryd.underlying24 Tryd.sizeOf26 rfl (by omega))) ?_
      refine vp_take rfl rfl rfl hS (fun w st => (by exact y_fa (k := 5) rfl Tryd.underlying26 rfl rfl Tryd.sizeOf3 rfl)) ?_
      refine vp_take rfl rfl rfl hS (fun w st => (by exact y_ldc rfl Tryd.isAgg3 (st.chg.cell (hc 5 _ rfl) (by simp)))) ?_
      refine vp_take rfl rfl rfl hS (fun w st => y_mv rfl) ?_
      refine vp_take rfl rfl rfl hS (fun w st => y_mv rfl) ?_
      refine vp_take rfl rfl rfl hS (fun w st => (by exact y_ia (k := j) rfl rfl Tryd.underlying24 Tryd.sizeOf26 rfl (by omega))) ?_
      refine vp_take rfl rfl rfl hS (fun w st => (by exact y_fa (k := 5) rfl Tryd.underlying26 rfl rfl Tryd.sizeOf3 rfl)) ?_
      refine vp_take rfl rfl rfl hS (fun w st => (by exact y_ldc rfl Tryd.isAgg3 (st.chg.cell (hd 5 _ rfl) (by simp)))) ?_
      refine vp_take rfl rfl rfl hS (fun w st => y_nei rfl rfl) ?_
      refine vp_part rfl rfl rfl hS rfl ?_ ?_
      · intro hg27
        try simp only [dn] at hg27
        refine vp_skip rfl rfl rfl hS ?_
        refine vp_skip rfl rfl rfl hS ?_
        refine vp_skip rfl rfl rfl hS ?_
        refine vp_skip rfl rfl rfl hS ?_
        refine vp_skip rfl rfl rfl hS ?_
        refine vp_skip rfl rfl rfl hS ?_
        refine vp_skip rfl rfl rfl hS ?_
        refine vp_skip rfl rfl rfl hS ?_
        refine vp_skip rfl rfl rfl hS ?_
        refine vp_skip rfl rfl rfl hS ?_
        refine vp_do rfl (e_skip rfl rfl (vp_next hS (fun hS => ?_)))
        refine vp_skip rfl rfl rfl hS ?_
        refine vp_take rfl rfl rfl hS (fun w st => y_pickt rfl rfl) ?_
        refine vp_end ?_
        refine vq_then ?_
        refine vc_keep [(0, _), (1, _), (12, _), (13, _), (40, _)] ⟨rfl, rfl, rfl, rfl, rfl, trivial⟩ ?_
        refine vc_ift rfl ?_
        refine vc_seq ?_
        refine vc_region ?_
        refine vc_y rfl rfl (y_as rfl) ?_
        refine vc_end ?_
        refine vq_then ?_
        refine vc_keep [(4, _)] ⟨rfl, trivial⟩ ?_
        refine vc_ret ?_
        refine vq_block_ret ?_
        refine vq_then_ret ?_
        refine vq_then_ret ?_
        refine vq_block_ret ?_
        refine vq_then_ret ?_
        refine vq_ret1 st (.inl rfl) Tryd.results12 (.tmp rfl) ?_
        refine ⟨_, rfl, ?_⟩
        refine ⟨?_, st.chg⟩
        rw [zipA_no hx hy (by rw [plE_eq]; simp_all)]
      · intro hg27
        try simp only [dn] at hg27
        refine vp_take rfl rfl rfl hS (fun w st => y_mv rfl) ?_
        refine vp_take rfl rfl rfl hS (fun w st => y_mv rfl) ?_
        refine vp_take rfl rfl rfl hS (fun w st => (by exact y_ia (k := j) rfl rfl Tryd.underlying24 Tryd.sizeOf26 rfl (by omega))) ?_
        refine vp_take rfl rfl rfl hS (fun w st => (by exact y_fa (k := 4) rfl Tryd.underlying26 rfl rfl Tryd.sizeOf24 rfl)) ?_
        refine vp_take rfl rfl rfl hS (fun w st => (by exact y_ldc rfl Tryd.isAgg24 (st.chg.cell (hc 4 _ rfl) (by simp)))) ?_
        refine vp_take rfl rfl rfl hS (fun w st => y_mv rfl) ?_
        refine vp_take rfl rfl rfl hS (fun w st => y_mv rfl) ?_
        refine vp_take rfl rfl rfl hS (fun w st => (by exact y_ia (k := j) rfl rfl Tryd.underlying24 Tryd.sizeOf26 rfl (by omega))) ?_
        refine vp_take rfl rfl rfl hS (fun w st => (by exact y_fa (k := 4) rfl Tryd.underlying26 rfl rfl Tryd.sizeOf24 rfl)) ?_
        refine vp_take rfl rfl rfl hS (fun w st => (by exact y_ldc rfl Tryd.isAgg24 (st.chg.cell (hd 4 _ rfl) (by simp)))) ?_
        refine vp_do rfl (e_call [_, _] rfl rfl Tryd.call12 rfl (ih _ hz2 x.kids rfl hkx.kids y.kids _ _ _ _ _ (hr0.kept (Same.of_nil st.chg)) (hr1.kept (Same.of_nil st.chg))) ?_)
        rintro _ w ⟨rfl, cw⟩
        replace st := st.call0 cw
        refine vp_next (by exact st) ?_; intro hS
        refine vp_take rfl rfl rfl hS (fun w st => y_not rfl) ?_
        refine vp_take rfl rfl rfl hS (fun w st => y_pickf rfl rfl) ?_
        refine vp_end ?_
        refine vq_then ?_
        refine vc_keep [(0, _), (1, _), (12, _), (13, _), (40, _)] ⟨rfl, rfl, rfl, rfl, rfl, trivial⟩ ?_
        refine vc_ifs rfl ?_ ?_
        · intro hc40
          try simp only [dn] at hc40
          refine vc_seq ?_
          refine vc_region ?_
          refine vc_y rfl rfl (y_as rfl) ?_
          refine vc_end ?_
          refine vq_then ?_
          refine vc_keep [(4, _)] ⟨rfl, trivial⟩ ?_
          refine vc_ret ?_
          refine vq_block_ret ?_
          refine vq_then_ret ?_
          refine vq_then_ret ?_
          refine vq_block_ret ?_
          refine vq_then_ret ?_
          refine vq_ret1 st (.inl rfl) Tryd.results12 (.tmp rfl) ?_
          refine ⟨_, rfl, ?_⟩
          refine ⟨?_, st.chg⟩
          rw [zipA_no hx hy (by rw [plE_eq]; simp_all)]
        · intro hc40
          try simp only [dn] at hc40
          refine vc_code_skip ?_
          refine vq_block ?_
          refine vq_then ?_
          refine vc_keep [(0, _), (1, _), (12, _), (13, _)] ⟨rfl, rfl, rfl, rfl, trivial⟩ ?_
          refine vc_region ?_
          refine vc_y rfl rfl (y_add rfl rfl (by omega : _ = ((j + 1 : Nat) : Int)) (by omega) (by omega)) ?_
          refine vc_y rfl rfl (y_mv rfl) ?_
          refine vc_end ?_
          refine vq_again (j + 1)  ⟨rfl, rfl, rfl, rfl, trivial⟩ (st.drop (by repeat (first | exact sl0 | apply sl1 | apply sl2))) ?_ ?_
          · exact ⟨by omega, fun i x' y' hi h1 h2 => by
              rcases (by omega : i < j ∨ i = j) with h | rfl
              · exact hall i x' y' h h1 h2
              · rw [hx] at h1; rw [hy] at h2; cases h1; cases h2; (rw [plE_eq]; simp_all)⟩
          · omega
    · intro hc14
      try simp only [dn] at hc14
      refine vc_exit ?_
      refine vq_then_exit ?_
      refine vq_then_exit ?_
      refine vq_block_exit ?_
      refine vq_then ?_
      refine vc_keep [] trivial ?_
      refine vc_seq ?_
      refine vc_region ?_
      refine vc_y rfl rfl (y_as rfl) ?_
      refine vc_end ?_
      refine vq_then ?_
      refine vc_keep [(4, _)] ⟨rfl, trivial⟩ ?_
      refine vc_ret ?_
      refine vq_ret1 st (.inl rfl) Tryd.results12 (.tmp rfl) ?_
      refine ⟨_, rfl, ?_⟩
      refine ⟨?_, st.chg⟩
      rw [zipA_yes hlen fun i x y hi h1 h2 => hall i x y (by omega) h1 h2]

end
end Go.Proofs.YtggnfanphcaamaaDoor


namespace Go.Proofs.YtggnfanphcaamaaDoor
open Go.RowKit Sx LexS
set_option linter.unusedVariables false
set_option linter.unusedSimpArgs false
end Go.Proofs.YtggnfanphcaamaaDoor


namespace Go.Proofs.YtggnfanphcaamaaDoor
open Go.RowKit Sx LexS
set_option linter.unusedVariables false
set_option linter.unusedSimpArgs false
section
variable {n0 : Nat}

end
end Go.Proofs.YtggnfanphcaamaaDoor


namespace Go.Proofs.YtggnfanphcaamaaDoor
open Go.RowKit Sx LexS
set_option linter.unusedVariables false
set_option linter.unusedSimpArgs false
section
variable {n0 : Nat}

end
end Go.Proofs.YtggnfanphcaamaaDoor


/- The parser does not see places: tokens that are one but for places give trees that are one but for places. -/
namespace ParS
open Sx LexS
set_option linter.unusedVariables false
set_option linter.unusedSimpArgs false

def trp (t : Tok) : Nat × List UInt8 × Nat := (t.kind, t.text, t.word)
def STk (a b : List Tok) : Prop := a.map trp = b.map trp
theorem STk.symm {a b : List Tok} (h : STk a b) : STk b a := Eq.symm h
theorem STk.len {a b : List Tok} (h : STk a b) : a.length = b.length := by simpa using congrArg List.length h
theorem STk.tail {a b : List Tok} (h : STk a b) : STk a.tail b.tail := by
  unfold STk at *
  rw [List.map_tail, List.map_tail, h]
theorem STk.here {a b : List Tok} (h : STk a b) : (here a).kind = (here b).kind ∧ (here a).text = (here b).text ∧ (here a).word = (here b).word := by
  cases a with
  | nil => cases b with
    | nil => exact ⟨rfl, rfl, rfl⟩
    | cons y s => simp [STk] at h
  | cons x r => cases b with
    | nil => simp [STk] at h
    | cons y s =>
      simp only [STk, List.map_cons, List.cons.injEq, trp, Prod.mk.injEq] at h
      exact ⟨h.1.1, h.1.2.1, h.1.2.2⟩
theorem STk.isT {a b : List Tok} (h : STk a b) (s : List UInt8) : isT s a = isT s b := by unfold ParS.isT; rw [h.here.1, h.here.2.1]
theorem STk.opT {a b : List Tok} (h : STk a b) : opT (ParS.here a) = opT (ParS.here b) := by unfold ParS.opT; rw [h.here.1, h.here.2.1]
theorem STk.formT {a b : List Tok} (h : STk a b) (s : List UInt8) : formT (ParS.here a) s = formT (ParS.here b) s := by unfold ParS.formT; rw [h.here.1, h.here.2.1]
/-- the same answer, but for places -/
def Rl {α : Type} (R : α → α → Prop) : PR α → PR α → Prop
  | .error f, .error g => f.2 = g.2
  | .ok (x, r), .ok (y, s) => R x y ∧ STk r s
  | _, _ => False
theorem Rl.cases {α : Type} {R : α → α → Prop} {p q : PR α} (h : Rl R p q) : (∃ f g, p = .error f ∧ q = .error g ∧ f.2 = g.2) ∨ ∃ x r y s, p = .ok (x, r) ∧ q = .ok (y, s) ∧ R x y ∧ STk r s := by
  cases p with
  | error f => cases q with
    | error g => exact .inl ⟨f, g, rfl, rfl, h⟩
    | ok b => exact h.elim
  | ok a => cases q with
    | error g => exact h.elim
    | ok b => exact .inr ⟨a.1, a.2, b.1, b.2, rfl, rfl, h.1, h.2⟩
/-- for answers that are a rest alone -/
def Rw : Except Flt (List Tok) → Except Flt (List Tok) → Prop
  | .error f, .error g => f.2 = g.2
  | .ok r, .ok s => STk r s
  | _, _ => False
theorem Rw.cases {p q : Except Flt (List Tok)} (h : Rw p q) : (∃ f g, p = .error f ∧ q = .error g ∧ f.2 = g.2) ∨ ∃ r s, p = .ok r ∧ q = .ok s ∧ STk r s := by
  cases p with
  | error f => cases q with
    | error g => exact .inl ⟨f, g, rfl, rfl, h⟩
    | ok b => exact h.elim
  | ok a => cases q with
    | error g => exact h.elim
    | ok b => exact .inr ⟨a, b, rfl, rfl, h⟩
section
variable {e e' : Nat}
def rE (x y : Ex) : Prop := sameE x y = true
/-- programs: the same, but for places -/
def Rg : Except Flt Pg → Except Flt Pg → Prop
  | .error f, .error g => f.2 = g.2
  | .ok p, .ok q => sameP p q = true
  | _, _ => False
theorem Rg.cases {p q : Except Flt Pg} (h : Rg p q) : (∃ f g, p = .error f ∧ q = .error g ∧ f.2 = g.2) ∨ ∃ r s, p = .ok r ∧ q = .ok s ∧ sameP r s = true := by
  cases p with
  | error f => cases q with
    | error g => exact .inl ⟨f, g, rfl, rfl, h⟩
    | ok b => exact h.elim
  | ok a => cases q with
    | error g => exact h.elim
    | ok b => exact .inr ⟨a, b, rfl, rfl, h⟩
end
end ParS


/- A text that is printed is cut into the tokens of its tree. -/
namespace ParS
open Sx LexS
set_option linter.unusedVariables false
set_option linter.unusedSimpArgs false

/-- ahead of 'Z', 'l' is cut into 'T' -/
def Lx (l : List UInt8) (T : List Tok) (Z : List UInt8) : Prop := ∀ i, ∃ T', STk T' T ∧ scanA (l ++ Z) i = (T' ++ (scanA Z (i + l.length)).1, (scanA Z (i + l.length)).2)
theorem STk.app {a b c d : List Tok} (h : STk a b) (k : STk c d) : STk (a ++ c) (b ++ d) := by unfold STk at *; rw [List.map_append, List.map_append, h, k]
theorem Lx.nil (Z : List UInt8) : Lx [] [] Z := fun i => ⟨[], rfl, by simp⟩
theorem Lx.app {l m : List UInt8} {T U : List Tok} {Z : List UInt8} (h : Lx l T (m ++ Z)) (k : Lx m U Z) : Lx (l ++ m) (T ++ U) Z := by
  intro i
  obtain ⟨T1, h1, h2⟩ := h i
  obtain ⟨U1, k1, k2⟩ := k (i + l.length)
  refine ⟨T1 ++ U1, h1.app k1, ?_⟩
  rw [List.append_assoc, h2, k2]
  simp [Nat.add_assoc]
/-- one token -/
theorem Lx.one {t : List UInt8} {x : Tok} {Z : List UInt8} (h0 : 0 < t.length) (hs : skip (t ++ Z) = 0) (h : ∀ i, ∃ y, tokAt (t ++ Z) i = .tok y ∧ trp y = trp x) (hx : x.text = t) : Lx t [x] Z := by
  intro i
  obtain ⟨y, h1, h2⟩ := h i
  have ht : y.text = t := by simp only [trp, Prod.mk.injEq] at h2; rw [h2.2.1, hx]
  refine ⟨[y], by simp [STk, h2], ?_⟩
  rw [scanA_tok (t := y) (by rw [hs]; simp; omega) (by rw [hs]; simpa using h1), hs, ht]
  simp
/-- nothing behind it that goes on with a word -/
def NI (Z : List UInt8) : Prop := ∀ c r, Z = c :: r → isIdent c = false
theorem NI.nil : NI [] := fun c r h => by cases h
theorem NI.cons {c : UInt8} (h : isIdent c = false) (r : List UInt8) : NI (c :: r) := fun d s e => by cases e; exact h
/-! ### expressions -/
/-- what an expression's text begins with -/
def Hd (l : List UInt8) : Prop := ∃ c r, l = c :: r ∧ c ≠ 61
theorem Hd.app {l : List UInt8} (h : Hd l) (m : List UInt8) : Hd (l ++ m) := by obtain ⟨c, r, rfl, h⟩ := h; exact ⟨c, r ++ m, rfl, h⟩
end ParS


/- The tokens of statements and programs, and that they are parsed as what they are of. -/
namespace ParS
open Sx LexS
set_option linter.unusedVariables false
set_option linter.unusedSimpArgs false

section
variable {e : Nat}
end
end ParS


/- A program's text that is printed is cut into its tokens, and parsed as it was, but for places. -/
namespace ParS
open Sx LexS
set_option linter.unusedVariables false
set_option linter.unusedSimpArgs false

section
variable {e : Nat}
end
end ParS

