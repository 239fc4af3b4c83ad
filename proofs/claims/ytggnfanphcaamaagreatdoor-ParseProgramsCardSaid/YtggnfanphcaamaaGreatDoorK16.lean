/- A part of the proof: contracts of functions and plain laws; each theorem says its own conditions. -/
import Derived.Test.YtggnfanphcaamaaGreatDoorK9
import Derived.Test.YtggnfanphcaamaaGreatDoorK15
import Derived.Test.YtggnfanphcaamaaGreatDoorK4
import Derived.Test.YtggnfanphcaamaaGreatDoorK1
import Derived.Test.YtggnfanphcaamaaGreatDoorK13
import Derived.Test.YtggnfanphcaamaaGreatDoorK2
import Derived.Test.YtggnfanphcaamaaGreatDoorK0
namespace Go.Proofs.YtggnfanphcaamaaGreatDoor
open Go.RowKit Sx LexS ParS
set_option linter.unusedVariables false
set_option linter.unusedSimpArgs false

set_option maxHeartbeats 1000000 in
theorem rparse_any (s : List UInt8) (w : World) : Ret Tryz.prog 6 [str s] w (ParsePost s w) := by
 refine ret_of [_] Tryz.func6 rfl Tryz.ntmps6 rfl ?_
 have st := St.init w []
 obtain ⟨w0, rfl⟩ : ∃ w0, w0 = w := ⟨_, rfl⟩
 refine vc_seq (vc_region ?_)
 refine vc_e (e_al (l := [_, _, _]) st rfl rfl Tryz.zeroValue25 rfl ?_)
 intro b2 w hb2 st
 refine vc_y rfl rfl (y_as rfl) ?_
 refine vc_e (e_al (l := [_, _]) st rfl rfl Tryz.zeroValue28 rfl ?_)
 intro b4 w hb4 st
 refine vc_end (vq_then (vc_keep [(0, _), (2, _), (4, _)] ⟨rfl, rfl, rfl, trivial⟩ (vc_seq (vc_region ?_))))
 refine vc_y rfl rfl (y_mv rfl) ?_
 refine vc_e (e_call [_] rfl rfl Tryz.call14 rfl (rbegun_any s _) ?_)
 rintro _ w ⟨cw, hb⟩
 rcases hb with ⟨hl, rfl⟩ | ⟨hl, ru, pl, hfr, rfl⟩ | ⟨hl, hfr, c, hn, rfl⟩
 ·
  replace st := st.call0 cw
  have hpr : parseRes s = (pg0, 4, 0, 0) := by simp [parseRes, hl]
  refine vc_y rfl rfl (y_mv rfl) ?_
  iterate 3 refine vc_y rfl rfl (y_ext rfl rfl) ?_
  refine vc_e (e_al (l := [_, _]) st rfl rfl Tryz.zeroValue28 rfl ?_)
  intro b7 w hb7 st
  iterate 2 refine vc_y rfl rfl (y_as rfl) ?_
  refine vc_e (e_sts (vs := [_, _]) st 0 rfl rfl rfl rfl rfl Tryz.sizeOf28 rfl rfl (by first | (right; assumption) | (left; simp)) ?_)
  intro w st; dsimp only [setNth, wr] at st
  refine vc_end (vq_then (vc_keep [(2, _), (4, _), (5, _), (6, _), (7, _)] ⟨rfl, rfl, rfl, rfl, rfl, trivial⟩ (vc_seq (vc_seq (vc_region ?_)))))
  refine vc_y rfl rfl (y_mv rfl) ?_
  refine vc_y rfl rfl (y_nei rfl rfl) ?_
  refine vc_end (vq_then (vc_keep [(2, _), (4, _), (5, _), (6, _), (7, _), (16, _)] ⟨rfl, rfl, rfl, rfl, rfl, rfl, trivial⟩ ?_))
  refine vc_ifs rfl ?_ ?_
  ·
   intro hc16
   try simp only [dn] at hc16
   refine vc_seq ?_
   refine vc_draw Tryz.mixed [(0, true), (1, true), (2, true), (3, false), (4, true), (5, false)] (fun w => St _ _ [.blk b7 (.cells [.int .i64 0, .int .i64 0].toArray 28 (0, 0))] w) (by exact st.drop (by repeat (first | exact sl0 | apply sl1 | apply sl2))) (by kernel_rfl) (by repeat (first | exact okQ_noPan | exact okQ_body | exact okQ_bodyS | refine okQ_then ?_ | refine okQ_block ?_)) rfl (by kernel_rfl) ?_
   intro w cd; replace st := st.call0 cd; clear cd
   have hS : St _ _ [.blk b7 (.cells [.int .i64 0, .int .i64 0].toArray 28 (0, 0))] w := (by exact st.drop (by repeat (first | exact sl0 | apply sl1 | apply sl2)))
   refine vp_take rfl rfl rfl hS (fun w st => y_bld (.agg #[_, _, _]) [] rfl (fun w => by simp [Instr.build, go_sem] <;> repeat' constructor)) ?_
   refine vp_take rfl rfl rfl hS (fun w st => y_mv rfl) ?_
   refine vp_take rfl rfl rfl hS (fun w st => (by exact y_lda (vs := [_, _]) st 0 rfl Tryz.isAgg28 Tryz.sizeOf28 rfl rfl)) ?_
   refine vp_do rfl (e_sts (vs := [_, _, _]) st 2 rfl rfl rfl rfl rfl Tryz.sizeOf25 rfl rfl (by first | (right; assumption) | (left; simp)) ?_)
   intro w st; dsimp only [setNth, wr] at st
   refine vp_next (by exact st.drop (by repeat (first | exact sl0 | apply sl1 | apply sl2))) ?_; intro hS
   refine vp_take rfl rfl rfl hS (fun w st => y_as rfl) ?_
   refine vp_do rfl (e_sts (vs := [_, _]) st 1 rfl rfl rfl rfl rfl Tryz.sizeOf28 rfl rfl (by first | (right; assumption) | (left; simp)) ?_)
   intro w st; dsimp only [setNth, wr] at st
   refine vp_next (by exact st.drop (by repeat (first | exact sl0 | apply sl1 | apply sl2))) ?_; intro hS
   refine vp_end (vq_then (vc_keep [(2, _), (3, _), (4, _)] ⟨rfl, rfl, rfl, trivial⟩ (vc_ret (vq_then_ret ?_))))
   refine vq_ret3 st (.inl rfl) Tryz.results6 (by exact .cell 2 rfl rfl Tryz.isAgg25 Tryz.sizeOf25) (.tmp rfl) (by exact .cell 1 rfl rfl Tryz.isAgg28 Tryz.sizeOf28) ?_
   refine ⟨_, rfl, ?_⟩
   refine ⟨st.chg, ?_⟩
   rw [hpr]
   exact ⟨_, hp_none _ _, rfl⟩
  ·
   intro hc16
   exact absurd hc16 (by decide)
 ·
  replace st := st.call0 cw
  have hpr : parseRes s = (pg0, 30, pl, 1) := by simp [parseRes, Nat.not_lt.2 hl, hfr]
  refine vc_y rfl rfl (y_mv rfl) ?_
  iterate 3 refine vc_y rfl rfl (y_ext rfl rfl) ?_
  refine vc_e (e_al (l := [_, _]) st rfl rfl Tryz.zeroValue28 rfl ?_)
  intro b7 w hb7 st
  iterate 2 refine vc_y rfl rfl (y_as rfl) ?_
  refine vc_e (e_sts (vs := [_, _]) st 0 rfl rfl rfl rfl rfl Tryz.sizeOf28 rfl rfl (by first | (right; assumption) | (left; simp)) ?_)
  intro w st; dsimp only [setNth, wr] at st
  refine vc_end (vq_then (vc_keep [(2, _), (4, _), (5, _), (6, _), (7, _)] ⟨rfl, rfl, rfl, rfl, rfl, trivial⟩ (vc_seq (vc_seq (vc_region ?_)))))
  refine vc_y rfl rfl (y_mv rfl) ?_
  refine vc_y rfl rfl (y_nei rfl rfl) ?_
  refine vc_end (vq_then (vc_keep [(2, _), (4, _), (5, _), (6, _), (7, _), (16, _)] ⟨rfl, rfl, rfl, rfl, rfl, rfl, trivial⟩ ?_))
  refine vc_ifs rfl ?_ ?_
  ·
   intro hc16
   try simp only [dn] at hc16
   refine vc_seq ?_
   refine vc_draw Tryz.mixed [(0, true), (1, true), (2, true), (3, false), (4, true), (5, false)] (fun w => St _ _ [.blk b7 (.cells [.int .i64 (pl : Int), .int .i64 1].toArray 28 (0, 0))] w) (by exact st.drop (by repeat (first | exact sl0 | apply sl1 | apply sl2))) (by kernel_rfl) (by repeat (first | exact okQ_noPan | exact okQ_body | exact okQ_bodyS | refine okQ_then ?_ | refine okQ_block ?_)) rfl (by kernel_rfl) ?_
   intro w cd; replace st := st.call0 cd; clear cd
   have hS : St _ _ [.blk b7 (.cells [.int .i64 (pl : Int), .int .i64 1].toArray 28 (0, 0))] w := (by exact st.drop (by repeat (first | exact sl0 | apply sl1 | apply sl2)))
   refine vp_take rfl rfl rfl hS (fun w st => y_bld (.agg #[_, _, _]) [] rfl (fun w => by simp [Instr.build, go_sem] <;> repeat' constructor)) ?_
   refine vp_take rfl rfl rfl hS (fun w st => y_mv rfl) ?_
   refine vp_take rfl rfl rfl hS (fun w st => (by exact y_lda (vs := [_, _]) st 0 rfl Tryz.isAgg28 Tryz.sizeOf28 rfl rfl)) ?_
   refine vp_do rfl (e_sts (vs := [_, _, _]) st 2 rfl rfl rfl rfl rfl Tryz.sizeOf25 rfl rfl (by first | (right; assumption) | (left; simp)) ?_)
   intro w st; dsimp only [setNth, wr] at st
   refine vp_next (by exact st.drop (by repeat (first | exact sl0 | apply sl1 | apply sl2))) ?_; intro hS
   refine vp_take rfl rfl rfl hS (fun w st => y_as rfl) ?_
   refine vp_do rfl (e_sts (vs := [_, _]) st 1 rfl rfl rfl rfl rfl Tryz.sizeOf28 rfl rfl (by first | (right; assumption) | (left; simp)) ?_)
   intro w st; dsimp only [setNth, wr] at st
   refine vp_next (by exact st.drop (by repeat (first | exact sl0 | apply sl1 | apply sl2))) ?_; intro hS
   refine vp_end (vq_then (vc_keep [(2, _), (3, _), (4, _)] ⟨rfl, rfl, rfl, trivial⟩ (vc_ret (vq_then_ret ?_))))
   refine vq_ret3 st (.inl rfl) Tryz.results6 (by exact .cell 2 rfl rfl Tryz.isAgg25 Tryz.sizeOf25) (.tmp rfl) (by exact .cell 1 rfl rfl Tryz.isAgg28 Tryz.sizeOf28) ?_
   refine ⟨_, rfl, ?_⟩
   refine ⟨st.chg, ?_⟩
   rw [hpr]
   exact ⟨_, hp_none _ _, rfl⟩
  ·
   intro hc16
   exact absurd hc16 (by decide)
 ·
  have hw1 := st.chg.size
  replace st := st.rnew cw hn
  have hrb := Nat.le_trans hw1 hn.le
  have hpr : parseRes s = match progP c.e (c.ts.length + 1) c.ts with | .error f => (pg0, 30, f.1, f.2) | .ok p => (p, 0, 0, 0) := by
   unfold parseRes; rw [if_neg (by omega), hfr, hn.e, hn.ts]
   try rfl
  refine vc_y rfl rfl (y_mv rfl) ?_
  iterate 3 refine vc_y rfl rfl (y_ext rfl rfl) ?_
  refine vc_e (e_al (l := [_, _]) st rfl rfl Tryz.zeroValue28 rfl ?_)
  intro b7 w hb7 st
  iterate 2 refine vc_y rfl rfl (y_as rfl) ?_
  refine vc_e (e_sts (vs := [_, _]) st 0 rfl rfl rfl rfl rfl Tryz.sizeOf28 rfl rfl (by first | (right; assumption) | (left; simp)) ?_)
  intro w st; dsimp only [setNth, wr] at st
  refine vc_end (vq_then (vc_keep [(2, _), (4, _), (5, _), (6, _), (7, _)] ⟨rfl, rfl, rfl, rfl, rfl, trivial⟩ (vc_seq (vc_seq (vc_region ?_)))))
  refine vc_y rfl rfl (y_mv rfl) ?_
  refine vc_y rfl rfl (y_nei rfl rfl) ?_
  refine vc_end (vq_then (vc_keep [(2, _), (4, _), (5, _), (6, _), (7, _), (16, _)] ⟨rfl, rfl, rfl, rfl, rfl, rfl, trivial⟩ ?_))
  refine vc_ifs rfl ?_ ?_
  ·
   intro hc16
   exact absurd hc16 (by decide)
  ·
   intro hc16
   try simp only [dn] at hc16
   refine vc_code_skip (vq_then (vc_keep [(2, _), (4, _), (5, _)] ⟨rfl, rfl, rfl, trivial⟩ (vc_seq (vc_region ?_))))
   refine vc_y rfl rfl (y_mv rfl) ?_
   refine vc_e (e_call [_] rfl rfl Tryz.call15 rfl (rprog_any (c.ts.length + 1) c ⟨c.ts, (0, 0)⟩ (List.suffix_refl _) _ (by exact hn.ok (st.res (i := 2) rfl) (st.res (i := 1) rfl)) (by exact st.res (i := 1) rfl) (by dsimp only; omega)) ?_)
   rintro _ w ⟨p, σ, hD, hsf, hP1, cw, os, ol, ot, cs, cl, ct, Sq, rfl, hQ, hN⟩
   have hw2 := st.chg.size
   replace st := St.prsT (b := c.rb) st 1 rfl cw (.inr hrb) hP1 (holds_pg hQ) hN.2
   dsimp only [setNth] at st
   have hdone := prog_done rfl hD
   dsimp only at hdone hsf
   refine vc_e (e_al (l := [_, _, _]) st rfl rfl Tryz.zeroValue25 rfl ?_)
   intro b8 w hb8 st
   refine vc_e (e_sts (vs := [_, _, _]) st 0 rfl rfl rfl rfl rfl Tryz.sizeOf25 rfl rfl (by first | (right; assumption) | (left; simp)) ?_)
   intro w st; dsimp only [setNth, wr] at st
   refine vc_end (vq_then (vc_keep [(2, _), (4, _), (5, _), (8, _)] ⟨rfl, rfl, rfl, rfl, trivial⟩ (vc_seq (vc_seq (vc_region ?_)))))
   refine vc_y rfl rfl (y_mv rfl) ?_
   refine vc_e (e_call [_] rfl rfl Tryz.call16 rfl (rok_any c σ hsf _ (by exact hn.ok (st.res (i := 4) rfl) (st.res (i := 3) rfl)) (by exact st.res (i := 3) rfl)) ?_)
   rintro _ w ⟨rfl, cw⟩
   replace st := st.call0 cw
   refine vc_y rfl rfl (y_not rfl) ?_
   refine vc_end (vq_then (vc_keep [(2, _), (4, _), (5, _), (8, _), (24, _)] ⟨rfl, rfl, rfl, rfl, rfl, trivial⟩ ?_))
   refine vc_ifs rfl ?_ ?_
   ·
    intro hc24
    try simp only [dn] at hc24
    have ho : ¬ σ.ok := by simpa using hc24
    have hb : parseRes s = (pg0, 30, σ.f.1, σ.f.2) := by
     rcases hdone with ⟨f, h1, h2, h3⟩ | ⟨h1, h2⟩
     ·
      rw [hpr, h1, h2]
     ·
      exact absurd h2 ho
    refine vc_seq ?_
    refine vc_draw Tryz.mixed [(0, true), (1, true), (2, true), (3, true), (4, true), (5, true), (6, true), (7, true), (8, true), (9, true), (10, false), (11, true), (12, false)] (fun w => St _ _ [.blk c.rb (.cells (rcell c σ).toArray c.T (0, 0))] w) (by exact st.drop (by repeat (first | exact sl0 | apply sl1 | apply sl2))) (by kernel_rfl) (by repeat (first | exact okQ_noPan | exact okQ_body | exact okQ_bodyS | refine okQ_then ?_ | refine okQ_block ?_)) rfl (by kernel_rfl) ?_
    intro w cd; replace st := st.call0 cd; clear cd
    have hS : St _ _ [.blk c.rb (.cells (rcell c σ).toArray c.T (0, 0))] w := (by exact st.drop (by repeat (first | exact sl0 | apply sl1 | apply sl2)))
    refine vp_take rfl rfl rfl hS (fun w st => y_bld (.agg #[_, _, _]) [] rfl (fun w => by simp [Instr.build, go_sem] <;> repeat' constructor)) ?_
    refine vp_take rfl rfl rfl hS (fun w st => y_mv rfl) ?_
    refine vp_take rfl rfl rfl hS (fun w st => y_nck rfl) ?_
    refine vp_take rfl rfl rfl hS (fun w st => (by exact y_faz (k := 3) rfl Tryz.underlying47 rfl rfl Tryz.sizeOf3 rfl)) ?_
    refine vp_take rfl rfl rfl hS (fun w st => (by exact y_ld st 0 rfl Tryz.isAgg3 rfl rfl)) ?_
    refine vp_take rfl rfl rfl hS (fun w st => y_mv rfl) ?_
    refine vp_take rfl rfl rfl hS (fun w st => y_nck rfl) ?_
    refine vp_take rfl rfl rfl hS (fun w st => (by exact y_faz (k := 4) rfl Tryz.underlying47 rfl rfl Tryz.sizeOf3 rfl)) ?_
    refine vp_take rfl rfl rfl hS (fun w st => (by exact y_ld st 0 rfl Tryz.isAgg3 rfl rfl)) ?_
    refine vp_take rfl rfl rfl hS (fun w st => y_bld (.agg #[_, _]) [(0, _), (1, _)] rfl (fun w => by simp [Instr.build, go_sem] <;> repeat' constructor)) ?_
    refine vp_do rfl (e_sts (vs := [_, _, _]) st 6 rfl rfl rfl rfl rfl Tryz.sizeOf25 rfl rfl (by first | (right; assumption) | (left; simp)) ?_)
    intro w st; dsimp only [setNth, wr] at st
    refine vp_next (by exact st.drop (by repeat (first | exact sl0 | apply sl1 | apply sl2))) ?_; intro hS
    refine vp_take rfl rfl rfl hS (fun w st => y_as rfl) ?_
    refine vp_do rfl (e_sts (vs := [_, _]) st 5 rfl rfl rfl rfl rfl Tryz.sizeOf28 rfl rfl (by first | (right; assumption) | (left; simp)) ?_)
    intro w st; dsimp only [setNth, wr] at st
    refine vp_next (by exact st.drop (by repeat (first | exact sl0 | apply sl1 | apply sl2))) ?_; intro hS
    refine vp_end (vq_then (vc_keep [(2, _), (3, _), (4, _)] ⟨rfl, rfl, rfl, trivial⟩ (vc_ret (vq_then_ret ?_))))
    refine vq_ret3 st (.inl rfl) Tryz.results6 (by exact .cell 6 rfl rfl Tryz.isAgg25 Tryz.sizeOf25) (.tmp rfl) (by exact .cell 5 rfl rfl Tryz.isAgg28 Tryz.sizeOf28) ?_
    refine ⟨_, rfl, ?_⟩
    refine ⟨st.chg, ?_⟩
    rw [hb]
    exact ⟨_, hp_none _ _, rfl⟩
   ·
    intro hc24
    try simp only [dn] at hc24
    have ho : σ.ok := by simpa using hc24
    have hb : parseRes s = (p, 0, 0, 0) := by
     rcases hdone with ⟨f, h1, h2, h3⟩ | ⟨h1, h2⟩
     ·
      exact absurd ho (by show ¬ σ.f.2 = 0; rw [h2]; exact h3)
     ·
      rw [hpr, h1]
    refine vc_code_skip (vq_then (vc_keep [(2, _), (4, _), (8, _)] ⟨rfl, rfl, rfl, trivial⟩ (vc_seq (vc_region ?_))))
    refine vc_y rfl rfl ((by exact y_lda (vs := [_, _, _]) st 0 rfl Tryz.isAgg25 Tryz.sizeOf25 rfl rfl)) ?_
    refine vc_y rfl rfl (y_bld (.agg #[_, _]) [] rfl (fun w => by simp [Instr.build, go_sem] <;> repeat' constructor)) ?_
    refine vc_e (e_sts (vs := [_, _, _]) st 6 rfl rfl rfl rfl rfl Tryz.sizeOf25 rfl rfl (by first | (right; assumption) | (left; simp)) ?_)
    intro w st; dsimp only [setNth, wr] at st
    refine vc_y rfl rfl (y_as rfl) ?_
    refine vc_e (e_sts (vs := [_, _]) st 5 rfl rfl rfl rfl rfl Tryz.sizeOf28 rfl rfl (by first | (right; assumption) | (left; simp)) ?_)
    intro w st; dsimp only [setNth, wr] at st
    refine vc_end (vq_then (vc_keep [(2, _), (3, _), (4, _)] ⟨rfl, rfl, rfl, trivial⟩ (vc_ret ?_)))
    refine vq_ret3 st (.inl rfl) Tryz.results6 (by exact .cell 6 rfl rfl Tryz.isAgg25 Tryz.sizeOf25) (.tmp rfl) (by exact .cell 5 rfl rfl Tryz.isAgg28 Tryz.sizeOf28) ?_
    refine ⟨_, rfl, ?_⟩
    refine ⟨st.chg, ?_⟩
    rw [hb]
    exact ⟨_, ⟨os, ol, ot, cs, cl, ct, Sq, rfl, (by exact (st.res (i := 1) rfl).1), hN.le hw2⟩, rfl⟩

end Go.Proofs.YtggnfanphcaamaaGreatDoor


/- What is read of a tree that lies in rows. -/
namespace Sx
open Go Go.RowKit
set_option linter.unusedVariables false
variable {w : World} {S : Nat → Prop}
theorem ExRow.gets {oa : Option Addr} {es : List Ex} (h : ExRow w S oa es) (hne : 0 < es.length) : ∃ b off, oa = some ⟨b, off, none⟩ ∧ ∀ j x, es[j]? = some x → ∃ ok ck, (∀ i v, (exC x ok ck)[i]? = some v → w.cell? ⟨b, off + j * 6 + i, none⟩ = some v) ∧ ExRow w S ok x.kids := by
  obtain ⟨vs, hr, hk⟩ := h
  rcases hr with h0 | ⟨b, off, e, -, -, hc⟩
  · omega
  · refine ⟨b, off, e, fun j x hx => ?_⟩
    have hj : j < es.length := (List.getElem?_eq_some_iff.1 hx).1
    have hv := hk j x hx
    obtain ⟨-, hcell⟩ := hc j hj
    generalize vs j = l at hv hcell
    cases hv with
    | mk vs' hr' hk' => exact ⟨_, _, hcell, _, hr', hk'⟩
theorem SmRow.gets {oa : Option Addr} {es : List Sm} (h : SmRow w S oa es) (hne : 0 < es.length) : ∃ b off, oa = some ⟨b, off, none⟩ ∧ ∀ j x, es[j]? = some x → ∃ oe ob ol ce cb cl, (∀ i v, (smC x oe ob ol ce cb cl)[i]? = some v → w.cell? ⟨b, off + j * 7 + i, none⟩ = some v) ∧ ExRow w S oe x.e ∧ SmRow w S ob x.body ∧ SmRow w S ol x.els := by
  obtain ⟨vs, hr, hk⟩ := h
  rcases hr with h0 | ⟨b, off, e, -, -, hc⟩
  · omega
  · refine ⟨b, off, e, fun j x hx => ?_⟩
    have hj : j < es.length := (List.getElem?_eq_some_iff.1 hx).1
    have hv := hk j x hx
    obtain ⟨-, hcell⟩ := hc j hj
    generalize vs j = l at hv hcell
    cases hv with
    | mk vb vl he hb hbk hl hlk => exact ⟨_, _, _, _, _, _, hcell, he, ⟨_, hb, hbk⟩, _, hl, hlk⟩
theorem ThRow.gets {oa : Option Addr} {es : List Th} (h : ThRow w S oa es) (hne : 0 < es.length) : ∃ b off, oa = some ⟨b, off, none⟩ ∧ ∀ j x, es[j]? = some x → ∃ ol ob cl cb, (∀ i v, (thC x ol ob cl cb)[i]? = some v → w.cell? ⟨b, off + j * 4 + i, none⟩ = some v) ∧ DcRow w S ol x.locals ∧ SmRow w S ob x.body := by
  obtain ⟨vs, hr, hk⟩ := h
  rcases hr with h0 | ⟨b, off, e, -, -, hc⟩
  · omega
  · refine ⟨b, off, e, fun j x hx => ?_⟩
    have hj : j < es.length := (List.getElem?_eq_some_iff.1 hx).1
    obtain ⟨ol, cl, ob, cb, hl, hd, hs⟩ := hk j x hx
    obtain ⟨-, hcell⟩ := hc j hj
    rw [hl] at hcell
    exact ⟨ol, ob, cl, cb, hcell, hd, hs⟩
theorem DcRow.gets {oa : Option Addr} {ds : List Dc} (h : DcRow w S oa ds) (hne : 0 < ds.length) : ∃ b off, oa = some ⟨b, off, none⟩ ∧ ∀ j x, ds[j]? = some x → ∀ i v, (dcL x)[i]? = some v → w.cell? ⟨b, off + j * 3 + i, none⟩ = some v := by
  rcases h with h0 | ⟨b, off, e, -, -, hc⟩
  · omega
  · refine ⟨b, off, e, fun j x hx => ?_⟩
    have hj : j < ds.length := (List.getElem?_eq_some_iff.1 hx).1
    obtain ⟨-, hcell⟩ := hc j hj
    simpa only [List.getD, hx, Option.getD_some] using hcell
theorem pgS_rows {tE tS tD tT : Nat} {p : Pg} {os ol ot : Option Addr} {cs cl ct : Nat} {B : List Nat} (h : PgS tE tS tD tT w p (pgC p os ol ot cs cl ct) B) : DcRow w (fun _ => True) os p.shared ∧ DcRow w (fun _ => True) ol p.locks ∧ ThRow w (fun _ => True) ot p.threads := by
  obtain ⟨os', cs', ol', cl', ot', ct', e, h1, h2, h3⟩ := h.toV (T := fun _ => True) (fun _ _ => trivial)
  simp only [pgC, List.cons.injEq, Value.slice.injEq, and_true, true_and] at e
  obtain ⟨⟨rfl, -⟩, ⟨rfl, -⟩, rfl, -⟩ := e
  exact ⟨h1, h2, h3⟩
end Sx


/- The two texts that say whether the parser lives. -/
namespace ParS
open LexS Sx Go.RowKit Go
def liveS : List UInt8 := [115, 104, 97, 114, 101, 100, 32, 120, 32, 61, 32, 45, 51, 59, 32, 116, 104, 114, 101, 97, 100, 32, 97, 32, 123, 32, 120, 32, 61, 32, 49, 32, 43, 32, 50, 32, 42, 32, 120, 59, 32, 125]
def deadS : List UInt8 := [116, 104, 114, 101, 97, 100, 32, 97, 32, 123, 32, 120, 32, 61, 32, 49, 32, 125]
set_option maxRecDepth 100000
abbrev liveQ : Pg := ⟨[⟨[120], -3, 7⟩], [], [⟨[97], [], [.mk 1 [120] [] [.mk 4 1 0 [] [.mk 1 0 1 [] [] 30, .mk 4 3 0 [] [.mk 1 0 2 [] [] 34, .mk 2 0 0 [120] [] 38] 36] 32] [] [] 26], 22⟩]⟩
theorem live_res : parseRes liveS = (liveQ, 0, 0, 0) := by kernel_rfl
theorem dead_res : parseRes deadS = (pg0, 30, 17, 2) := by kernel_rfl

end ParS


namespace Go.Proofs.YtggnfanphcaamaaGreatDoor
open Go.RowKit Sx LexS ParS
set_option linter.unusedVariables false
set_option linter.unusedSimpArgs false
theorem fieldsF : (Tryz.prog.fieldsOf 28).toList.map (fun f => (f.name, f.type, f.offset)) = [("At", 3, 0), ("Rule", 3, 1)] := by kernel_rfl
theorem eqFieldsF (p q r s : Int) (w : World) : (Op.eqFields 9999 [.int .i64 p, .int .i64 q].toArray [.int .i64 r, .int .i64 s].toArray (Tryz.prog.fieldsOf 28).toList).run Tryz.prog w = .ok (decide (p = r) && decide (q = s)) w := by
 have h := fieldsF
 match hf : (Tryz.prog.fieldsOf 28).toList with
 | [a, b] =>
  rw [hf] at h
  simp only [List.map_cons, List.map_nil, List.cons.injEq, Prod.mk.injEq, and_true] at h
  obtain ⟨⟨a1, a2, a3⟩, b1, b2, b3⟩ := h
  have e1 : ∀ (x y : Int) w, (part 3 [.int .i64 x, .int .i64 y].toArray 0).run Tryz.prog w = .ok (.int .i64 x) w := fun x y w => run_part1 Tryz.isAgg3 rfl
  have e2 : ∀ (x y : Int) w, (part 3 [.int .i64 x, .int .i64 y].toArray 1).run Tryz.prog w = .ok (.int .i64 y) w := fun x y w => run_part1 Tryz.isAgg3 rfl
  have r1 := run_equalIn_int (P := Tryz.prog) w 9998 3 .i64 .i64 p r Tryz.underlying3
  have r2 := run_equalIn_int (P := Tryz.prog) w 9998 3 .i64 .i64 q s Tryz.underlying3
  simp only [Op.eqFields, a1, a2, a3, b1, b2, b3, Sem.run_bind, Sem.run_ite, e1, e2, Result.andThen_ok]
  simp only [ne_eq, String.reduceEq, not_false_eq_true, if_true, Sem.run_bind, Sem.run_ite, e1, e2, r1, r2, Result.andThen_ok, Sem.run_pure]
  by_cases h1 : p = r
  ·
   by_cases h2 : q = s <;> simp [h1, h2]
  ·
   simp [h1]
 | [] => rw [hf] at h; simp at h
 | [_] => rw [hf] at h; simp at h
 | _ :: _ :: _ :: _ => rw [hf] at h; simp at h
section
variable {n : Fr} {kn : Kn} {w : World} {d ty : Nat} {pos : String} {aft : Array Edge} {g : Option (Nat × Bool)}
theorem y_neF {U : Nat} {x y : Operand} {p q r s : Int} (hx : evO kn x = some (.agg [.int .i64 p, .int .i64 q].toArray)) (hy : evO kn y = some (.agg [.int .i64 r, .int .i64 s].toArray)) : Y Tryz.prog n kn w ⟨some d, .binOp .neq 28 x y U, ty, pos, aft, g⟩ (.bool (!(decide (p = r) && decide (q = s)))) :=
 y_bo hx hy (by
   have h1 := run_eqGuard_agg (P := Tryz.prog) w .neq 28 x y [.int .i64 p, .int .i64 q].toArray [.int .i64 r, .int .i64 s].toArray (by kernel_rfl)
   have h2 := run_neq_struct (P := Tryz.prog) w 28 [.int .i64 p, .int .i64 q].toArray [.int .i64 r, .int .i64 s].toArray
   rw [run_equalIn_agg w 9999 28 _ _ (by kernel_rfl) (by kernel_rfl), eqFieldsF] at h2
   simp only [Sem.run_bind, h1, Result.andThen_ok]
   have h3 : (binOp .neq 28 (.agg [.int .i64 p, .int .i64 q].toArray) (.agg [.int .i64 r, .int .i64 s].toArray)).run Tryz.prog w = .ok (.bool (!(decide (p = r) && decide (q = s)))) w := by rw [h2]; rfl
   exact h3)
end

set_option maxHeartbeats 2000000 in
theorem lives_any (w : World) (hsg : SigAt 1 w) : Ret Tryz.prog 7 [] w fun v w' => v = .bool true ∧ Chg [] w w' := by
 refine ret_of [] Tryz.func7 rfl Tryz.ntmps7 rfl ?_
 have st := St.init w []
 obtain ⟨w0, rfl⟩ : ∃ w0, w0 = w := ⟨_, rfl⟩
 refine vc_seq (vc_region ?_)
 refine vc_y rfl rfl (y_as rfl) ?_
 refine vc_end (vq_then (vc_keep [] trivial (vc_seq (vc_region ?_))))
 refine vc_e (e_call [_] rfl rfl Tryz.call5 rfl (parse_any liveS _ (hsg.kept st.chg (by simp))) ?_)
 rintro _ w h
 rw [ParsePost, live_res] at h
 obtain ⟨cw, _, ⟨os, ol, ot, cs, cl, ct, Sq, rfl, hT, hN⟩, rfl⟩ := h
 replace st := st.pushR cw (holds_pg hT) hN.2
 refine vc_y rfl rfl (y_mv rfl) ?_
 iterate 3 refine vc_y rfl rfl (y_ext rfl rfl) ?_
 refine vc_e (e_al (l := [_, _, _]) st rfl rfl Tryz.zeroValue25 rfl ?_)
 intro b1 w hb1 st
 refine vc_e (e_al (l := [_, _]) st rfl rfl Tryz.zeroValue28 rfl ?_)
 intro b3 w hb3 st
 refine vc_e (e_sts (vs := [_, _, _]) st 1 rfl rfl rfl rfl rfl Tryz.sizeOf25 rfl rfl (by first | (right; assumption) | (left; simp)) ?_)
 intro w st; dsimp only [setNth, wr] at st
 refine vc_y rfl rfl (y_as rfl) ?_
 refine vc_e (e_sts (vs := [_, _]) st 0 rfl rfl rfl rfl rfl Tryz.sizeOf28 rfl rfl (by first | (right; assumption) | (left; simp)) ?_)
 intro w st; dsimp only [setNth, wr] at st
 refine vc_end (vq_then (vc_keep [(1, _), (2, _)] ⟨rfl, rfl, trivial⟩ (vc_seq (vc_region ?_))))
 refine vc_e (e_call [_] rfl rfl Tryz.call5 rfl (parse_any deadS _ (hsg.kept st.chg (by simp))) ?_)
 rintro _ w h
 rw [ParsePost, dead_res] at h
 obtain ⟨cw, _, ⟨os2, ol2, ot2, cs2, cl2, ct2, Sq2, rfl, -, -⟩, rfl⟩ := h
 replace st := st.call0 cw
 refine vc_y rfl rfl (y_mv rfl) ?_
 iterate 3 refine vc_y rfl rfl (y_ext rfl rfl) ?_
 refine vc_e (e_al (l := [_, _, _]) st rfl rfl Tryz.zeroValue25 rfl ?_)
 intro b4 w hb4 st
 refine vc_e (e_al (l := [_, _]) st rfl rfl Tryz.zeroValue28 rfl ?_)
 intro b6 w hb6 st
 refine vc_e (e_sts (vs := [_, _, _]) st 1 rfl rfl rfl rfl rfl Tryz.sizeOf25 rfl rfl (by first | (right; assumption) | (left; simp)) ?_)
 intro w st; dsimp only [setNth, wr] at st
 refine vc_y rfl rfl (y_as rfl) ?_
 refine vc_e (e_sts (vs := [_, _]) st 0 rfl rfl rfl rfl rfl Tryz.sizeOf28 rfl rfl (by first | (right; assumption) | (left; simp)) ?_)
 intro w st; dsimp only [setNth, wr] at st
 refine vc_end (vq_then (vc_keep [(1, _), (2, _), (5, _), (6, _)] ⟨rfl, rfl, rfl, rfl, trivial⟩ (vc_seq (vc_seq (vc_region ?_)))))
 obtain ⟨hsh, -, hth⟩ := pgS_rows (st.res (i := 4) rfl).1
 obtain ⟨bs, fs, rfl, hds⟩ := DcRow.gets hsh (by decide)
 obtain ⟨bt, ft, rfl, hts⟩ := hth.gets (by decide)
 obtain ⟨_, ob, _, cb, hthc, -, hsm⟩ := hts 0 _ rfl
 obtain ⟨bb, fb, rfl, hss⟩ := hsm.gets (by decide)
 obtain ⟨oe, _, _, ce, _, _, hsc, hex, -⟩ := hss 0 _ rfl
 obtain ⟨be, fe, rfl, hes⟩ := hex.gets (by decide)
 obtain ⟨ok, ck, hec, hkd⟩ := hes 0 _ rfl
 obtain ⟨bk, fk, rfl, hks⟩ := hkd.gets (by decide)
 obtain ⟨_, _, hkc, -⟩ := hks 1 _ rfl
 refine vc_y rfl rfl (y_mv rfl) ?_
 refine vc_y rfl rfl (y_nei rfl rfl) ?_
 refine vc_e (e_mvb rfl rfl rfl ?_ ?_)
 ·
  intro hg20
  exact absurd hg20 (by decide)
 ·
  intro hg20
  try simp only [dn] at hg20
  refine vc_y rfl rfl (y_mv rfl) ?_
  refine vc_y rfl rfl (y_nei rfl rfl) ?_
  refine vc_y rfl rfl (y_pickf rfl rfl) ?_
  refine vc_e (e_mvb rfl rfl rfl ?_ ?_)
  ·
   intro hg24
   exact absurd hg24 (by decide)
  ·
   intro hg24
   try simp only [dn] at hg24
   refine vc_y rfl rfl ((by exact y_lda (vs := [_, _]) st 0 rfl Tryz.isAgg28 Tryz.sizeOf28 rfl rfl)) ?_
   refine vc_y rfl rfl (y_bld (.agg #[_, _]) [(0, _), (1, _)] rfl (fun w => by simp [Instr.build, go_sem] <;> repeat' constructor)) ?_
   refine vc_y rfl rfl (y_neF rfl rfl) ?_
   refine vc_y rfl rfl (y_pickf rfl rfl) ?_
   refine vc_e (e_mvb rfl rfl rfl ?_ ?_)
   ·
    intro hg29
    exact absurd hg29 (by decide)
   ·
    intro hg29
    try simp only [dn] at hg29
    refine vc_y rfl rfl ((by exact y_faz (k := 2) rfl Tryz.underlying25 rfl rfl Tryz.sizeOf23 rfl)) ?_
    refine vc_y rfl rfl ((by exact y_ld st 3 rfl Tryz.isAgg23 rfl rfl)) ?_
    refine vc_y rfl rfl (y_lensl rfl Tryz.underlying23) ?_
    refine vc_y rfl rfl (y_nei rfl rfl) ?_
    refine vc_y rfl rfl (y_pickf rfl rfl) ?_
    refine vc_e (e_mvb rfl rfl rfl ?_ ?_)
    ·
     intro hg35
     exact absurd hg35 (by decide)
    ·
     intro hg35
     try simp only [dn] at hg35
     refine vc_y rfl rfl ((by exact y_faz (k := 2) rfl Tryz.underlying25 rfl rfl Tryz.sizeOf23 rfl)) ?_
     refine vc_y rfl rfl ((by exact y_ld st 3 rfl Tryz.isAgg23 rfl rfl)) ?_
     refine vc_y rfl rfl ((by exact y_ia (k := 0) rfl rfl Tryz.underlying23 Tryz.sizeOf50 rfl (by decide))) ?_
     refine vc_y rfl rfl ((by exact y_fa (k := 2) rfl Tryz.underlying50 rfl rfl Tryz.sizeOf48 rfl)) ?_
     refine vc_y rfl rfl ((by exact y_ldc rfl Tryz.isAgg48 (hthc 2 _ rfl))) ?_
     refine vc_y rfl rfl (y_lensl rfl Tryz.underlying48) ?_
     refine vc_y rfl rfl (y_nei rfl rfl) ?_
     refine vc_y rfl rfl (y_pickf rfl rfl) ?_
     refine vc_e (e_mvb rfl rfl rfl ?_ ?_)
     ·
      intro hg44
      exact absurd hg44 (by decide)
     ·
      intro hg44
      try simp only [dn] at hg44
      refine vc_y rfl rfl (y_fa0 rfl Tryz.underlying25 rfl rfl Tryz.sizeOf22 rfl) ?_
      refine vc_y rfl rfl ((by exact y_ld st 3 rfl Tryz.isAgg22 rfl rfl)) ?_
      refine vc_y rfl rfl (y_lensl rfl Tryz.underlying22) ?_
      refine vc_y rfl rfl (y_nei rfl rfl) ?_
      refine vc_y rfl rfl (y_pickf rfl rfl) ?_
      refine vc_e (e_mvb rfl rfl rfl ?_ ?_)
      ·
       intro hg50
       exact absurd hg50 (by decide)
      ·
       intro hg50
       try simp only [dn] at hg50
       refine vc_y rfl rfl (y_fa0 rfl Tryz.underlying25 rfl rfl Tryz.sizeOf22 rfl) ?_
       refine vc_y rfl rfl ((by exact y_ld st 3 rfl Tryz.isAgg22 rfl rfl)) ?_
       refine vc_y rfl rfl ((by exact y_ia (k := 0) rfl rfl Tryz.underlying22 Tryz.sizeOf52 rfl (by decide))) ?_
       refine vc_y rfl rfl ((by exact y_fa (k := 1) rfl Tryz.underlying52 rfl rfl Tryz.sizeOf2 rfl)) ?_
       refine vc_y rfl rfl ((by exact y_ldc rfl Tryz.isAgg2 (hds 0 _ rfl 1 _ rfl))) ?_
       refine vc_y rfl rfl (y_nei rfl rfl) ?_
       refine vc_y rfl rfl (y_pickf rfl rfl) ?_
       refine vc_end (vq_then (vc_keep [(1, _), (57, _)] ⟨rfl, rfl, trivial⟩ ?_))
       refine vc_ifs rfl ?_ ?_
       ·
        intro hc57
        exact absurd hc57 (by decide)
       ·
        intro hc57
        try simp only [dn] at hc57
        refine vc_code_skip (vq_then (vc_keep [(1, _)] ⟨rfl, trivial⟩ (vc_seq (vc_region ?_))))
        refine vc_y rfl rfl ((by exact y_faz (k := 2) rfl Tryz.underlying25 rfl rfl Tryz.sizeOf23 rfl)) ?_
        refine vc_y rfl rfl ((by exact y_ld st 3 rfl Tryz.isAgg23 rfl rfl)) ?_
        refine vc_y rfl rfl ((by exact y_ia (k := 0) rfl rfl Tryz.underlying23 Tryz.sizeOf50 rfl (by decide))) ?_
        refine vc_y rfl rfl ((by exact y_fa (k := 2) rfl Tryz.underlying50 rfl rfl Tryz.sizeOf48 rfl)) ?_
        refine vc_y rfl rfl ((by exact y_ldc rfl Tryz.isAgg48 (hthc 2 _ rfl))) ?_
        refine vc_y rfl rfl ((by exact y_ia (k := 0) rfl rfl Tryz.underlying48 Tryz.sizeOf56 rfl (by decide))) ?_
        refine vc_y rfl rfl ((by exact y_fa (k := 3) rfl Tryz.underlying56 rfl rfl Tryz.sizeOf54 rfl)) ?_
        refine vc_y rfl rfl ((by exact y_ldc rfl Tryz.isAgg54 (hsc 3 _ rfl))) ?_
        refine vc_y rfl rfl (y_as rfl) ?_
        refine vc_end (vq_then (vc_keep [(7, _)] ⟨rfl, trivial⟩ (vc_seq (vc_region ?_))))
        refine vc_y rfl rfl (y_mv rfl) ?_
        refine vc_y rfl rfl (y_lensl rfl Tryz.underlying54) ?_
        refine vc_y rfl rfl (y_eqi rfl rfl) ?_
        refine vc_e (e_mvb rfl rfl rfl ?_ ?_)
        ·
         intro hg69
         try simp only [dn] at hg69
         refine vc_y rfl rfl (y_mv rfl) ?_
         refine vc_y rfl rfl ((by exact y_ia (k := 0) rfl rfl Tryz.underlying54 Tryz.sizeOf60 rfl (by decide))) ?_
         refine vc_y rfl rfl ((by exact y_fa (k := 1) rfl Tryz.underlying60 rfl rfl Tryz.sizeOf58 rfl)) ?_
         refine vc_y rfl rfl ((by exact y_ldc rfl Tryz.isAgg58 (hec 1 _ rfl))) ?_
         refine vc_y rfl rfl (y_eqi rfl rfl) ?_
         refine vc_y rfl rfl (y_pickt rfl rfl) ?_
         refine vc_e (e_mvb rfl rfl rfl ?_ ?_)
         ·
          intro hg76
          try simp only [dn] at hg76
          refine vc_y rfl rfl (y_mv rfl) ?_
          refine vc_y rfl rfl ((by exact y_ia (k := 0) rfl rfl Tryz.underlying54 Tryz.sizeOf60 rfl (by decide))) ?_
          refine vc_y rfl rfl ((by exact y_fa (k := 4) rfl Tryz.underlying60 rfl rfl Tryz.sizeOf54 rfl)) ?_
          refine vc_y rfl rfl ((by exact y_ldc rfl Tryz.isAgg54 (hec 4 _ rfl))) ?_
          refine vc_y rfl rfl (y_lensl rfl Tryz.underlying54) ?_
          refine vc_y rfl rfl (y_eqi rfl rfl) ?_
          refine vc_y rfl rfl (y_pickt rfl rfl) ?_
          refine vc_e (e_mvb rfl rfl rfl ?_ ?_)
          ·
           intro hg84
           try simp only [dn] at hg84
           refine vc_y rfl rfl (y_mv rfl) ?_
           refine vc_y rfl rfl ((by exact y_ia (k := 0) rfl rfl Tryz.underlying54 Tryz.sizeOf60 rfl (by decide))) ?_
           refine vc_y rfl rfl ((by exact y_fa (k := 4) rfl Tryz.underlying60 rfl rfl Tryz.sizeOf54 rfl)) ?_
           refine vc_y rfl rfl ((by exact y_ldc rfl Tryz.isAgg54 (hec 4 _ rfl))) ?_
           refine vc_y rfl rfl ((by exact y_ia (k := 1) rfl rfl Tryz.underlying54 Tryz.sizeOf60 rfl (by decide))) ?_
           refine vc_y rfl rfl ((by exact y_fa (k := 1) rfl Tryz.underlying60 rfl rfl Tryz.sizeOf58 rfl)) ?_
           refine vc_y rfl rfl ((by exact y_ldc rfl Tryz.isAgg58 (hkc 1 _ rfl))) ?_
           refine vc_y rfl rfl (y_eqi rfl rfl) ?_
           refine vc_y rfl rfl (y_pickt rfl rfl) ?_
           refine vc_y rfl rfl (y_as rfl) ?_
           refine vc_end (vq_then (vc_keep [(0, _)] ⟨rfl, trivial⟩ (vc_ret ?_)))
           refine vq_ret1 st (.inl rfl) Tryz.results7 (.tmp rfl) ?_
           refine ⟨_, rfl, ?_⟩
           exact ⟨rfl, st.chg⟩
          ·
           intro hg84
           exact absurd hg84 (by decide)
         ·
          intro hg76
          exact absurd hg76 (by decide)
        ·
         intro hg69
         exact absurd hg69 (by decide)

end Go.Proofs.YtggnfanphcaamaaGreatDoor


namespace Go.Proofs.YtggnfanphcaamaaGreatDoor
open Go.RowKit Sx LexS
abbrev Sig (w : World) : Prop := SigAt 1 w
abbrev pgL (p : Pg) (os ol ot : Option Addr) (cs cl ct : Nat) : List Value := [.slice os p.shared.length cs, .slice ol p.locks.length cl, .slice ot p.threads.length ct]
set_option linter.unusedVariables false
set_option linter.unusedSimpArgs false
/-! ## reading rows -/
theorem RowC.at {w : World} {S : Nat → Prop} {sz n : Nat} {oa : Option Addr} {vs : Nat → List Value} (h : RowC w S sz oa n vs) (hn : 0 < n) :
    ∃ b off, oa = some ⟨b, off, none⟩ ∧ S b ∧ b < w.heap.size ∧ ∀ j, j < n → (vs j).length = sz ∧ ∀ i v, (vs j)[i]? = some v → w.cell? ⟨b, off + j * sz + i, none⟩ = some v := by
  rcases h with h | h
  · omega
  · exact h
abbrev szo {α : Type} [SizeOf α] (x : α) : Nat := SizeOf.sizeOf x
theorem ex_size {k op wd : Int} {nm : List UInt8} {kids : List Ex} {a : Int} : szo kids < szo (Ex.mk k op wd nm kids a) := by
  simp only [szo, Ex.mk.sizeOf_spec]; omega
theorem mem_size {α : Type} [SizeOf α] {l : List α} {j : Nat} {x : α} (h : l[j]? = some x) : szo x < szo l := List.sizeOf_lt_of_mem (List.mem_of_getElem? h)
theorem sm_size {k : Int} {nm other : List UInt8} {e : List Ex} {body els : List Sm} {a : Int} : szo body < szo (Sm.mk k nm other e body els a) ∧ szo els < szo (Sm.mk k nm other e body els a) := by
  simp only [szo, Sm.mk.sizeOf_spec]; omega
section
variable {w w' : World} {S : Nat → Prop} {M : List Nat}
/-- an expression's value -/
abbrev exL (e : Ex) (oa : Option Addr) (cap : Nat) : List Value := [.int .u8 e.k, .int .u8 e.op, .int .i64 e.wd, str e.nm, .slice oa e.kids.length cap, .int .i64 e.a]
theorem ExV.inv {e : Ex} {l : List Value} (h : ExV w S e l) : ∃ oa cap, l = exL e oa cap ∧ ExRow w S oa e.kids := by
  cases h with
  | mk vs hr hk => exact ⟨_, _, rfl, vs, hr, hk⟩
theorem ExRow.at {oa : Option Addr} {es : List Ex} (h : ExRow w S oa es) (hn : 0 < es.length) : ∃ b off, oa = some ⟨b, off, none⟩ ∧ S b ∧ b < w.heap.size ∧
    ∀ j x, es[j]? = some x → ∃ o c, ExV w S x (exL x o c) ∧ ExRow w S o x.kids ∧ ∀ i v, (exL x o c)[i]? = some v → w.cell? ⟨b, off + j * 6 + i, none⟩ = some v := by
  obtain ⟨vs, hr, hk⟩ := h
  obtain ⟨b, off, e, hb, hl, hc⟩ := RowC.at hr hn
  refine ⟨b, off, e, hb, hl, fun j x hx => ?_⟩
  have hx' := hk j x hx
  obtain ⟨o, c, e2, hr2⟩ := ExV.inv hx'
  have := (hc j (List.getElem?_eq_some_iff.1 hx).1).2
  rw [e2] at hx' this
  exact ⟨o, c, hx', hr2, this⟩
/-- a statement's value -/
abbrev smL (s : Sm) (oe ob ol : Option Addr) (ce cb cl : Nat) : List Value := [.int .u8 s.k, str s.nm, str s.other, .slice oe s.e.length ce, .slice ob s.body.length cb, .slice ol s.els.length cl, .int .i64 s.a]
theorem SmV.inv {s : Sm} {l : List Value} (h : SmV w S s l) : ∃ oe ob ol ce cb cl, l = smL s oe ob ol ce cb cl ∧ ExRow w S oe s.e ∧ SmRow w S ob s.body ∧ SmRow w S ol s.els := by
  cases h with
  | mk vb vl he hb hbk hl hlk => exact ⟨_, _, _, _, _, _, rfl, he, ⟨vb, hb, hbk⟩, ⟨vl, hl, hlk⟩⟩
theorem SmRow.at {oa : Option Addr} {es : List Sm} (h : SmRow w S oa es) (hn : 0 < es.length) : ∃ b off, oa = some ⟨b, off, none⟩ ∧ S b ∧ b < w.heap.size ∧
    ∀ j s, es[j]? = some s → ∃ oe ob ol ce cb cl, SmV w S s (smL s oe ob ol ce cb cl) ∧ ExRow w S oe s.e ∧ SmRow w S ob s.body ∧ SmRow w S ol s.els ∧ ∀ i v, (smL s oe ob ol ce cb cl)[i]? = some v → w.cell? ⟨b, off + j * 7 + i, none⟩ = some v := by
  obtain ⟨vs, hr, hk⟩ := h
  obtain ⟨b, off, e, hb, hl, hc⟩ := RowC.at hr hn
  refine ⟨b, off, e, hb, hl, fun j x hx => ?_⟩
  have hx' := hk j x hx
  obtain ⟨oe, ob, ol, ce, cb, cl, e2, h1, h2, h3⟩ := SmV.inv hx'
  have := (hc j (List.getElem?_eq_some_iff.1 hx).1).2
  rw [e2] at hx' this
  exact ⟨oe, ob, ol, ce, cb, cl, hx', h1, h2, h3, this⟩
theorem DcRow.at {oa : Option Addr} {ds : List Dc} (h : DcRow w S oa ds) (hn : 0 < ds.length) : ∃ b off, oa = some ⟨b, off, none⟩ ∧ S b ∧ b < w.heap.size ∧
    ∀ j x, ds[j]? = some x → ∀ i v, (dcL x)[i]? = some v → w.cell? ⟨b, off + j * 3 + i, none⟩ = some v := by
  obtain ⟨b, off, e, hb, hl, hc⟩ := RowC.at h hn
  refine ⟨b, off, e, hb, hl, fun j x hx => ?_⟩
  have hj := (List.getElem?_eq_some_iff.1 hx).1
  have := (hc j hj).2
  simp only [List.getD, hx, Option.getD_some] at this
  exact this
abbrev thL (t : Th) (ol ob : Option Addr) (cl cb : Nat) : List Value := [str t.nm, .slice ol t.locals.length cl, .slice ob t.body.length cb, .int .i64 t.a]
theorem ThRow.at {oa : Option Addr} {ts : List Th} (h : ThRow w S oa ts) (hn : 0 < ts.length) : ∃ b off, oa = some ⟨b, off, none⟩ ∧ S b ∧ b < w.heap.size ∧
    ∀ j t, ts[j]? = some t → ∃ ol ob cl cb, DcRow w S ol t.locals ∧ SmRow w S ob t.body ∧ ∀ i v, (thL t ol ob cl cb)[i]? = some v → w.cell? ⟨b, off + j * 4 + i, none⟩ = some v := by
  obtain ⟨vs, hr, hk⟩ := h
  obtain ⟨b, off, e, hb, hl, hc⟩ := RowC.at hr hn
  refine ⟨b, off, e, hb, hl, fun j x hx => ?_⟩
  obtain ⟨ol, cl, ob, cb, e2, h1, h2⟩ := hk j x hx
  have := (hc j (List.getElem?_eq_some_iff.1 hx).1).2
  rw [e2] at this
  exact ⟨ol, ob, cl, cb, h1, h2, this⟩
end
theorem szo_kids (e : Ex) : szo e.kids < szo e := by cases e; exact ex_size
end Go.Proofs.YtggnfanphcaamaaGreatDoor


namespace Go.Proofs.YtggnfanphcaamaaGreatDoor
open Go.RowKit Sx LexS
set_option linter.unusedVariables false
set_option linter.unusedSimpArgs false
theorem fields80 : (Tryz.prog.fieldsOf 52).toList.map (fun f => (f.name, f.type, f.offset)) = [("Name", 9, 0), ("Word", 2, 1), ("At", 3, 2)] := by kernel_rfl
theorem eqFields80 (p q : Dc) (w : World) : (Op.eqFields 9999 (dcL p).toArray (dcL q).toArray (Tryz.prog.fieldsOf 52).toList).run Tryz.prog w = .ok (eqD p q) w := by
  have h := fields80
  match hf : (Tryz.prog.fieldsOf 52).toList with
  | [a, b, c] =>
    rw [hf] at h
    simp only [List.map_cons, List.map_nil, List.cons.injEq, Prod.mk.injEq, and_true] at h
    obtain ⟨⟨a1, a2, a3⟩, ⟨b1, b2, b3⟩, c1, c2, c3⟩ := h
    have e1 : ∀ (x : Dc) w, (part 9 (dcL x).toArray 0).run Tryz.prog w = .ok (str x.nm) w := fun x w => run_part1 Tryz.isAgg9 rfl
    have e2 : ∀ (x : Dc) w, (part 2 (dcL x).toArray 1).run Tryz.prog w = .ok (.int .i64 x.wd) w := fun x w => run_part1 Tryz.isAgg2 rfl
    have e3 : ∀ (x : Dc) w, (part 3 (dcL x).toArray 2).run Tryz.prog w = .ok (.int .i64 x.a) w := fun x w => run_part1 Tryz.isAgg3 rfl
    have r1 := run_equalIn_string (P := Tryz.prog) w 9998 9 ⟨p.nm.toArray⟩ ⟨q.nm.toArray⟩ Tryz.underlying9
    have r2 := run_equalIn_int (P := Tryz.prog) w 9998 2 .i64 .i64 p.wd q.wd Tryz.underlying2
    have r3 := run_equalIn_int (P := Tryz.prog) w 9998 3 .i64 .i64 p.a q.a Tryz.underlying3
    simp only [str_toList] at r1
    simp only [Op.eqFields, a1, a2, a3, b1, b2, b3, c1, c2, c3, Sem.run_bind, Sem.run_ite, e1, e2, e3, Result.andThen_ok]
    simp only [ne_eq, String.reduceEq, not_false_eq_true, if_true, Sem.run_bind, Sem.run_ite, e1, e2, e3, r1, r2, r3, Result.andThen_ok, Sem.run_pure]
    unfold eqD
    by_cases h1 : p.nm = q.nm
    · by_cases h2 : p.wd = q.wd
      · by_cases h3 : p.a = q.a <;> simp [h1, h2, h3]
      · simp [h1, h2]
    · simp [h1]
  | [] => rw [hf] at h; simp at h
  | [_] => rw [hf] at h; simp at h
  | [_, _] => rw [hf] at h; simp at h
  | _ :: _ :: _ :: _ :: _ => rw [hf] at h; simp at h
section
variable {n : Fr} {kn : Kn} {w : World} {d ty : Nat} {pos : String} {aft : Array Edge} {g : Option (Nat × Bool)}
theorem y_neD {U : Nat} {x y : Operand} {p q : Dc} (hx : evO kn x = some (.agg (dcL p).toArray)) (hy : evO kn y = some (.agg (dcL q).toArray)) : Y Tryz.prog n kn w ⟨some d, .binOp .neq 52 x y U, ty, pos, aft, g⟩ (.bool (!eqD p q)) :=
  y_bo hx hy (by
    have h1 := run_eqGuard_agg (P := Tryz.prog) w .neq 52 x y (dcL p).toArray (dcL q).toArray (by kernel_rfl)
    have h2 := run_neq_struct (P := Tryz.prog) w 52 (dcL p).toArray (dcL q).toArray
    rw [run_equalIn_agg w 9999 52 _ _ (by kernel_rfl) (by kernel_rfl), eqFields80] at h2
    simp only [Sem.run_bind, h1, Result.andThen_ok]
    have h3 : (binOp .neq 52 (.agg (dcL p).toArray) (.agg (dcL q).toArray)).run Tryz.prog w = .ok (.bool (!eqD p q)) w := by rw [h2]; rfl
    exact h3)
end
end Go.Proofs.YtggnfanphcaamaaGreatDoor

