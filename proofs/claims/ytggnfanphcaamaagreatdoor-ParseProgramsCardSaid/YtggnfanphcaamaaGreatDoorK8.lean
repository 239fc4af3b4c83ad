/- A part of the proof: contracts of functions and plain laws; each theorem says its own conditions. -/
import Derived.Test.YtggnfanphcaamaaGreatDoorK4
import Derived.Test.YtggnfanphcaamaaGreatDoorK7
namespace Go.Proofs.YtggnfanphcaamaaGreatDoor
open Go.RowKit Sx LexS ParS
set_option linter.unusedVariables false
set_option linter.unusedSimpArgs false
/-- a new list of declarations -/
def HD (w : World) (l : List Dc) (v : Value) (w' : World) : Prop := ∃ o cc Sq, v = .slice o l.length cc ∧ DcR 52 w' o cc l Sq ∧ Nw w.heap.size Sq ∧ l.length ≤ 1048577
/-- a new row of one expression -/
def HR (w : World) (x : Ex) (v : Value) (w' : World) : Prop := ∃ o cc Sq, v = .slice o 1 cc ∧ ExR 60 w' o cc [x] Sq ∧ Nw w.heap.size Sq
theorem rexpr_any (c : RCtx) (σ : RS) (hr : σ.r <:+ c.ts) (w : World) (hC : RCok c w) (hP : RAt c σ w) : Ret Tryz.prog 82 [.pointer (some ⟨c.rb, 0, none⟩), .int .i64 1, .int .i64 0] w (RRes c σ (exprP c.e 64) w (HE w)) :=
 ((reader_any c σ.r.length).2 64 0 rfl 1 (by omega) (by omega) σ hr (fun _ => Nat.le_refl _) w hC hP).mono fun v w' ⟨x, σ', h, hq⟩ => ⟨x, σ', h.congr (fun r => climbE_expr (unaryP c.e 64) (unary_goes c.e 64) r), hq⟩

theorem rname_any (c : RCtx) (σ : RS) (hr : σ.r <:+ c.ts) (w : World) (hC : RCok c w) (hP : RAt c σ w) : Ret Tryz.prog 49 [.pointer (some ⟨c.rb, 0, none⟩)] w fun v w' => v = .tuple #[str (nameT σ), .int .i64 (nameA σ : Int)] ∧ RAt c (nameR c.e σ) w' ∧ Chg [c.rb] w w' := by
 refine ret_of [_] Tryz.func49 rfl Tryz.ntmps49 rfl ?_
  
 obtain ⟨w0, rfl⟩ : ∃ w0, w0 = w := ⟨_, rfl⟩
 have hP' := hP
 dsimp only [RAt, rcell] at hP
 have st := St.of1 [c.rb] hP
 have h20 := hC.len
 have hl := suf_len hr
 refine vc_seq (vc_region ?_)
 iterate 2 refine vc_y rfl rfl (y_as rfl) ?_
 refine vc_end (vq_then (vc_keep [(0, _)] ⟨rfl, trivial⟩ (vc_seq (vc_region ?_))))
 refine vc_y rfl rfl (y_mv rfl) ?_
 refine vc_e (e_call [_] rfl rfl Tryz.call50 rfl (rhere_any c σ hr _ (hC.k1 st.chg) (by exact st.res (i := 0) rfl)) ?_)
 rintro _ w ⟨rfl, cw⟩
 replace st := st.call0 cw
 refine vc_e (e_al (l := [_, _, _, _]) st rfl rfl Tryz.zeroValue82 rfl ?_)
 intro b4 w hb4 st
 refine vc_e (e_sts (vs := [_, _, _, _]) st 0 rfl rfl rfl rfl rfl Tryz.sizeOf82 rfl rfl (by first | (right; assumption) | (left; simp)) ?_)
 intro w st; dsimp only [setNth, wr] at st
 refine vc_end (vq_then (vc_keep [(0, _), (4, _)] ⟨rfl, rfl, trivial⟩ (vc_seq (vc_seq (vc_region ?_)))))
 refine vc_y rfl rfl (y_mv rfl) ?_
 refine vc_e (e_call [_] rfl rfl Tryz.call16 rfl (rok_any c σ hr _ (hC.k1 st.chg) (by exact st.res (i := 1) rfl)) ?_)
 rintro _ w ⟨rfl, cw⟩
 replace st := st.call0 cw
 refine vc_y rfl rfl (y_not rfl) ?_
 refine vc_e (e_mvb rfl rfl rfl ?_ ?_)
 ·
  intro hg10
  try simp only [dn] at hg10
  have ho : ¬ σ.ok := by simpa using hg10
  have hb : nameB σ = false := by simp [nameB, ho]
  iterate 3 refine vc_e (e_skip rfl rfl ?_)
  refine vc_y rfl rfl (y_pickt rfl rfl) ?_
  refine vc_end (vq_then (vc_keep [(0, _), (4, _), (14, _)] ⟨rfl, rfl, rfl, trivial⟩ ?_))
  refine vc_ift rfl ?_
  refine vc_seq (vc_region ?_)
  refine vc_y rfl rfl (y_mv rfl) ?_
  refine vc_e (e_call [_, _] rfl rfl Tryz.call51 rfl (rfail_any c 2 σ hr _ (hC.k1 st.chg) (by exact st.res (i := 1) rfl)) ?_)
  rintro _ w ⟨rfl, hP1, cw⟩
  replace st := St.prs (b := c.rb) st 1 rfl cw (.inl (.head _)) hP1
  dsimp only [setNth] at st
  refine vc_end (vq_then (vc_keep [] trivial (vc_seq (vc_region ?_))))
  iterate 2 refine vc_y rfl rfl (y_as rfl) ?_
  refine vc_end (vq_then (vc_keep [(2, _), (3, _)] ⟨rfl, rfl, trivial⟩ (vc_ret (vq_then_ret ?_))))
  refine vq_ret2 st (.inl rfl) Tryz.results49 (.tmp rfl) (.tmp rfl) ?_
  refine ⟨_, rfl, ?_⟩
  rw [nameT_neg hb, nameA_neg hb]
  refine ⟨rfl, ?_, st.chg⟩
  unfold nameR
  rw [if_neg (by simp [hb])]
  exact (by exact st.res (i := 1) rfl)
 ·
  intro hg10
  try simp only [dn] at hg10
  have ho : σ.ok := by simpa using hg10
  refine vc_y rfl rfl (y_fa0 rfl Tryz.underlying82 rfl rfl Tryz.sizeOf80 rfl) ?_
  refine vc_y rfl rfl ((by exact y_ld st 0 rfl Tryz.isAgg80 rfl rfl)) ?_
  refine vc_y rfl rfl (y_nei rfl rfl) ?_
  refine vc_y rfl rfl (y_pickf rfl rfl) ?_
  refine vc_end (vq_then (vc_keep [(0, _), (4, _), (14, _)] ⟨rfl, rfl, rfl, trivial⟩ ?_))
  refine vc_ifs rfl ?_ ?_
  ·
   intro hc14
   try simp only [dn] at hc14
   have hk : ¬ (here σ.r).kind = 1 := by rw [hereE_kind] at hc14; omega
   have hb : nameB σ = false := by simp [nameB, hk]
   refine vc_seq (vc_region ?_)
   refine vc_y rfl rfl (y_mv rfl) ?_
   refine vc_e (e_call [_, _] rfl rfl Tryz.call51 rfl (rfail_any c 2 σ hr _ (hC.k1 st.chg) (by exact st.res (i := 1) rfl)) ?_)
   rintro _ w ⟨rfl, hP1, cw⟩
   replace st := St.prs (b := c.rb) st 1 rfl cw (.inl (.head _)) hP1
   dsimp only [setNth] at st
   refine vc_end (vq_then (vc_keep [] trivial (vc_seq (vc_region ?_))))
   iterate 2 refine vc_y rfl rfl (y_as rfl) ?_
   refine vc_end (vq_then (vc_keep [(2, _), (3, _)] ⟨rfl, rfl, trivial⟩ (vc_ret (vq_then_ret ?_))))
   refine vq_ret2 st (.inl rfl) Tryz.results49 (.tmp rfl) (.tmp rfl) ?_
   refine ⟨_, rfl, ?_⟩
   rw [nameT_neg hb, nameA_neg hb]
   refine ⟨rfl, ?_, st.chg⟩
   unfold nameR
   rw [if_neg (by simp [hb])]
   exact (by exact st.res (i := 1) rfl)
  ·
   intro hc14
   try simp only [dn] at hc14
   have hk : (here σ.r).kind = 1 := by rw [hereE_kind] at hc14; omega
   have hb : nameB σ = true := by simp [nameB, hk, ho]
   have hne := kind_ne hk (by decide)
   have htl := tail_lt hne
   have ht2 : σ.r.tail.length = σ.r.length - 1 := List.length_tail
   refine vc_code_skip (vq_then (vc_keep [(0, _), (4, _)] ⟨rfl, rfl, trivial⟩ (vc_seq (vc_region ?_))))
   refine vc_y rfl rfl (y_mv rfl) ?_
   refine vc_y rfl rfl (y_nck rfl) ?_
   refine vc_y rfl rfl ((by exact y_faz (k := 1) rfl Tryz.underlying47 rfl rfl Tryz.sizeOf3 rfl)) ?_
   refine vc_y rfl rfl ((by exact y_ld st 1 rfl Tryz.isAgg3 rfl rfl)) ?_
   refine vc_y rfl rfl (y_add rfl rfl (by omega : _ = ((c.ts.length - σ.r.tail.length : Nat) : Int)) (by omega) (by omega)) ?_
   refine vc_y rfl rfl (y_nck rfl) ?_
   refine vc_y rfl rfl ((by exact y_faz (k := 1) rfl Tryz.underlying47 rfl rfl Tryz.sizeOf3 rfl)) ?_
   refine vc_e (e_st st 1 rfl rfl rfl rfl Tryz.sizeOf3 rfl rfl (by first | (right; assumption) | (left; simp)) ?_)
   intro w st; dsimp only [setNth, wr] at st
   refine vc_end (vq_then (vc_keep [(4, _)] ⟨rfl, trivial⟩ (vc_seq ?_)))
   refine vc_draw Tryz.mixed [(0, true), (1, true), (2, true), (3, true), (4, true), (5, true)] (fun w => St _ _ _ w) st (by kernel_rfl) (by repeat (first | exact okQ_noPan | exact okQ_body | exact okQ_bodyS | refine okQ_then ?_ | refine okQ_block ?_)) rfl (by kernel_rfl) ?_
   intro w cd; replace st := st.call0 cd; clear cd
   have hS := st
   refine vp_take rfl rfl rfl hS (fun w st => (by exact y_faz (k := 1) rfl Tryz.underlying82 rfl rfl Tryz.sizeOf9 rfl)) ?_
   refine vp_take rfl rfl rfl hS (fun w st => (by exact y_ld st 0 rfl Tryz.isAgg9 rfl rfl)) ?_
   refine vp_take rfl rfl rfl hS (fun w st => (by exact y_faz (k := 3) rfl Tryz.underlying82 rfl rfl Tryz.sizeOf3 rfl)) ?_
   refine vp_take rfl rfl rfl hS (fun w st => (by exact y_ld st 0 rfl Tryz.isAgg3 rfl rfl)) ?_
   iterate 2 refine vp_take rfl rfl rfl hS (fun w st => y_as rfl) ?_
   refine vp_end (vq_then (vc_keep [(2, _), (3, _)] ⟨rfl, rfl, trivial⟩ (vc_ret ?_)))
   refine vq_ret2 st (.inl rfl) Tryz.results49 (.tmp rfl) (.tmp rfl) ?_
   refine ⟨_, rfl, ?_⟩
   rw [nameT_pos hb, nameA_pos hb]
   refine ⟨by rw [hereE_cons hne], ?_, st.chg⟩
   unfold nameR
   rw [if_pos hb]
   exact (by exact st.res (i := 1) rfl)

theorem rnames_any (n : Nat) (c : RCtx) (σ : RS) (hr : σ.r <:+ c.ts) (w : World) (hC : RCok c w) (hP : RAt c σ w) (hn : σ.r.length < n) : Ret Tryz.prog 33 [.pointer (some ⟨c.rb, 0, none⟩)] w (RRes c σ (listP c.e (declP c.e) n) w (HD w)) := by
 refine ret_of [_] Tryz.func33 rfl Tryz.ntmps33 rfl ?_
  
 obtain ⟨w0, rfl⟩ : ∃ w0, w0 = w := ⟨_, rfl⟩
 have hP' := hP
 dsimp only [RAt, rcell] at hP
 have st := St.of1 [c.rb] hP
 have h20 := hC.len
 have hl := suf_len hr
 replace st := st.ownNil 52 3
 refine vc_seq (vc_region ?_)
 refine vc_y rfl rfl (y_as rfl) ?_
 refine vc_end (vq_then (vc_keep [(0, _)] ⟨rfl, trivial⟩ (vc_seq (vc_region ?_))))
 refine vc_y rfl rfl (y_as rfl) ?_
 refine vc_end (vq_then (vc_keep [(0, _), (3, _)] ⟨rfl, rfl, trivial⟩ (vc_seq (vc_block ?_))))
 refine vc_loop (w0 := w0) (M := [c.rb]) (fun (y : List Dc × RS × Nat × Option Addr × Nat) => [(0, .pointer (some ⟨c.rb, 0, none⟩)), (3, .slice y.2.2.2.1 y.1.length y.2.2.2.2)]) (fun (y : List Dc × RS × Nat × Option Addr × Nat) => [.own (.slice y.2.2.2.1 y.1.length y.2.2.2.2) 52 3 y.1.length (y.1.flatMap dcL), .blk c.rb (.cells (rcell c y.2.1).toArray c.T (0, 0))]) (fun (y : List Dc × RS × Nat × Option Addr × Nat) _ => y.2.1.r <:+ σ.r ∧ y.1.length + y.2.1.r.length ≤ σ.r.length ∧ y.2.1.r.length < y.2.2.1 ∧ run (listP c.e (declP c.e) n) σ = addL y.1 (run (listP c.e (declP c.e) y.2.2.1) y.2.1)) (fun (y : List Dc × RS × Nat × Option Addr × Nat) => y.2.1.r.length) ([], σ, n, none, 0) ⟨rfl, rfl, trivial⟩ st ⟨List.suffix_refl _, by simp, hn, (addL_nil _).symm⟩ ?_
 clear st
 rintro ⟨acc, σ1, k, o, cc⟩ w ⟨hsf1, hl1, hk1, hG⟩ st
 dsimp only at hsf1 hl1 hk1 hG st
 have hr1 := hsf1.trans hr
 obtain ⟨k, rfl⟩ : ∃ j, k = j + 1 := ⟨k - 1, by omega⟩
 have h40 := suf_len hr1
 refine vc_seq (vc_seq (vc_region ?_))
 refine vc_y rfl rfl (y_mv rfl) ?_
 refine vc_e (e_call [_] rfl rfl Tryz.call16 rfl (rok_any c σ1 hr1 _ (hC.k1 st.chg) (by exact st.res (i := 1) rfl)) ?_)
 rintro _ w ⟨rfl, cw⟩
 replace st := st.call0 cw
 refine vc_end (vq_then (vc_keep [(0, _), (3, _), (7, _)] ⟨rfl, rfl, rfl, trivial⟩ ?_))
 refine vc_ifs rfl ?_ ?_
 ·
  intro hc7
  try simp only [dn] at hc7
  have ho : σ1.ok := by simpa using hc7
  refine vc_code_skip (vq_then (vc_keep [(0, _), (3, _)] ⟨rfl, rfl, trivial⟩ (vc_block (vc_seq (vc_region ?_)))))
  refine vc_y rfl rfl (y_mv rfl) ?_
  refine vc_e (e_call [_] rfl rfl Tryz.call49 rfl (rname_any c σ1 hr1 _ (hC.k1 st.chg) (by exact st.res (i := 1) rfl)) ?_)
  rintro _ w ⟨rfl, hP1, cw⟩
  replace st := St.prs (b := c.rb) st 1 rfl cw (.inl (.head _)) hP1
  dsimp only [setNth] at st
  have hd := decl_done (e := c.e) σ1
  have hsf2 : (nameR c.e σ1).r <:+ σ1.r := nameR_suf
  have hr2 := hsf2.trans hr1
  have h41 := suf_len hsf2
  refine vc_y rfl rfl (y_mv rfl) ?_
  iterate 2 refine vc_y rfl rfl (y_ext rfl rfl) ?_
  iterate 2 refine vc_y rfl rfl (y_as rfl) ?_
  refine vc_end (vq_then (vc_keep [(0, _), (3, _), (4, _), (5, _)] ⟨rfl, rfl, rfl, rfl, trivial⟩ (vc_seq (vc_region ?_))))
  iterate 3 refine vc_y rfl rfl (y_mv rfl) ?_
  refine vc_y rfl rfl (y_bld (.agg #[_, _, _]) [(0, _), (2, _)] rfl (fun w => by simp [Instr.build, go_sem] <;> repeat' constructor)) ?_
  refine vc_e (e_bs1 (l := [_, _, _]) st rfl rfl rfl rfl Tryz.underlying22 Tryz.sizeOf52 rfl rfl rfl Tryz.zeroValue52 ?_)
  intro b17 w hb17 st
  refine vc_e (e_app (bytes := 32) st 1 0 rfl rfl rfl rfl rfl rfl Tryz.underlying22 Tryz.info52 rfl rfl rfl rfl rfl (by simp) rfl rfl (by unfold maxLen; omega) (by omega) ?_)
  intro oaQ capQ w st; dsimp only [setNth] at st
  replace st := st.pick [1, 2] rfl (by decide)
  refine vc_y rfl rfl (y_as rfl) ?_
  refine vc_end (vq_then (vc_keep [(0, _), (3, _)] ⟨rfl, rfl, trivial⟩ (vc_seq (vc_region ?_))))
  refine vc_y rfl rfl (y_mv rfl) ?_
  refine vc_e (e_call [_, _] rfl rfl Tryz.call31 rfl (rtake_any c [44] (nameR c.e σ1) hr2 _ (hC.k1 st.chg) (by exact st.res (i := 1) rfl)) ?_)
  rintro _ w ⟨rfl, hP1, cw⟩
  replace st := St.prs (b := c.rb) st 1 rfl cw (.inl (.head _)) hP1
  dsimp only [setNth] at st
  refine vc_y rfl rfl (y_not rfl) ?_
  refine vc_end (vq_then (vc_keep [(0, _), (3, _), (21, _)] ⟨rfl, rfl, rfl, trivial⟩ ?_))
  refine vc_ifs rfl ?_ ?_
  ·
   intro hc21
   try simp only [dn] at hc21
   have hF : takeB [44] (nameR c.e σ1) = false := by simpa using hc21
   rw [takeR_neg hF] at st
   refine vc_exit (vq_block_other rfl (vq_then_exit (vq_block_exit (vq_then (vc_keep [(0, _), (3, _)] ⟨rfl, rfl, trivial⟩ (vc_seq (vc_region ?_)))))))
   refine vc_y rfl rfl (y_mv rfl) ?_
   refine vc_e (e_call [_, _] rfl rfl Tryz.call52 rfl (rwant_any c [59] (nameR c.e σ1) hr2 _ (hC.k1 st.chg) (by exact st.res (i := 1) rfl)) ?_)
   rintro _ w ⟨rfl, hP1, cw⟩
   replace st := St.prs (b := c.rb) st 1 rfl cw (.inl (.head _)) hP1
   dsimp only [setNth] at st
   refine vc_end (vq_then (vc_keep [(3, _)] ⟨rfl, trivial⟩ (vc_seq (vc_region ?_))))
   refine vc_y rfl rfl (y_mv rfl) ?_
   refine vc_y rfl rfl (y_as rfl) ?_
   refine vc_end (vq_then (vc_keep [(2, _)] ⟨rfl, trivial⟩ (vc_ret ?_)))
   refine vq_ret1 st (.inl rfl) Tryz.results33 (.tmp rfl) ?_
   refine ⟨_, rfl, ?_⟩
   have hown := st.ownNw (i := 0) rfl
   exact ⟨acc ++ [⟨nameT σ1, 0, (nameA σ1 : Int)⟩], wantR c.e [59] (nameR c.e σ1), by rw [hG]; exact (list_last hd hF).add, wantR_suf.trans (hsf2.trans hsf1), (by exact st.res (i := 1) rfl), st.chg, oaQ, capQ, obk oaQ, by simp, ⟨by simpa [dcL] using hown.1, rfl⟩, hown.2, by simp; omega⟩
  ·
   intro hc21
   try simp only [dn] at hc21
   have hT : takeB [44] (nameR c.e σ1) = true := by simpa using hc21
   have htl := tail_lt (isT_ne (takeB_pos hT).2)
   rw [takeR_pos hT] at st
   refine vc_code_skip (vq_block ?_)
   refine vq_again (acc ++ [⟨nameT σ1, 0, (nameA σ1 : Int)⟩], ⟨(nameR c.e σ1).r.tail, (nameR c.e σ1).f⟩, k, oaQ, capQ)  ⟨rfl, by simp [find, put], trivial⟩ (by simpa [dcL] using st) ?_ ?_
   ·
    exact ⟨(List.tail_suffix _).trans (hsf2.trans hsf1), by simp; simp at htl; omega, by dsimp only; omega, hG.trans (list_more hd hT)⟩
   ·
    dsimp only; omega
 ·
  intro hc7
  try simp only [dn] at hc7
  have ho : ¬ σ1.ok := by simpa using hc7
  refine vc_exit (vq_then_exit (vq_then_exit (vq_block_exit (vq_then (vc_keep [(0, _), (3, _)] ⟨rfl, rfl, trivial⟩ (vc_seq (vc_region ?_)))))))
  refine vc_y rfl rfl (y_mv rfl) ?_
  refine vc_e (e_call [_, _] rfl rfl Tryz.call52 rfl (rwant_any c [59] σ1 hr1 _ (hC.k1 st.chg) (by exact st.res (i := 1) rfl)) ?_)
  rintro _ w ⟨rfl, hP1, cw⟩
  replace st := St.prs (b := c.rb) st 1 rfl cw (.inl (.head _)) hP1
  dsimp only [setNth] at st
  refine vc_end (vq_then (vc_keep [(3, _)] ⟨rfl, trivial⟩ (vc_seq (vc_region ?_))))
  refine vc_y rfl rfl (y_mv rfl) ?_
  refine vc_y rfl rfl (y_as rfl) ?_
  refine vc_end (vq_then (vc_keep [(2, _)] ⟨rfl, trivial⟩ (vc_ret ?_)))
  refine vq_ret1 st (.inl rfl) Tryz.results33 (.tmp rfl) ?_
  refine ⟨_, rfl, ?_⟩
  have hown := st.ownNw (i := 0) rfl
  exact ⟨acc, wantR c.e [59] σ1, by rw [hG]; exact (list_bad ho).add_nil, wantR_suf.trans hsf1, (by exact st.res (i := 1) rfl), st.chg, o, cc, obk o, rfl, ⟨hown.1, rfl⟩, hown.2, by have := suf_len hr; omega⟩

set_option maxHeartbeats 1000000 in
theorem rshared_any (n : Nat) (c : RCtx) (σ : RS) (hr : σ.r <:+ c.ts) (w : World) (hC : RCok c w) (hP : RAt c σ w) (hn : σ.r.length < n) : Ret Tryz.prog 32 [.pointer (some ⟨c.rb, 0, none⟩)] w (RRes c σ (listP c.e (initP c.e) n) w (HD w)) := by
 refine ret_of [_] Tryz.func32 rfl Tryz.ntmps32 rfl ?_
  
 obtain ⟨w0, rfl⟩ : ∃ w0, w0 = w := ⟨_, rfl⟩
 have hP' := hP
 dsimp only [RAt, rcell] at hP
 have st := St.of1 [c.rb] hP
 have h20 := hC.len
 have hl := suf_len hr
 replace st := st.ownNil 52 3
 refine vc_seq (vc_region ?_)
 refine vc_y rfl rfl (y_as rfl) ?_
 refine vc_end (vq_then (vc_keep [(0, _)] ⟨rfl, trivial⟩ (vc_seq (vc_region ?_))))
 refine vc_y rfl rfl (y_as rfl) ?_
 refine vc_end (vq_then (vc_keep [(0, _), (3, _)] ⟨rfl, rfl, trivial⟩ (vc_seq (vc_block ?_))))
 refine vc_loop (w0 := w0) (M := [c.rb]) (fun (y : List Dc × RS × Nat × Option Addr × Nat) => [(0, .pointer (some ⟨c.rb, 0, none⟩)), (3, .slice y.2.2.2.1 y.1.length y.2.2.2.2)]) (fun (y : List Dc × RS × Nat × Option Addr × Nat) => [.own (.slice y.2.2.2.1 y.1.length y.2.2.2.2) 52 3 y.1.length (y.1.flatMap dcL), .blk c.rb (.cells (rcell c y.2.1).toArray c.T (0, 0))]) (fun (y : List Dc × RS × Nat × Option Addr × Nat) _ => y.2.1.r <:+ σ.r ∧ y.1.length + y.2.1.r.length ≤ σ.r.length ∧ y.2.1.r.length < y.2.2.1 ∧ run (listP c.e (initP c.e) n) σ = addL y.1 (run (listP c.e (initP c.e) y.2.2.1) y.2.1)) (fun (y : List Dc × RS × Nat × Option Addr × Nat) => y.2.1.r.length) ([], σ, n, none, 0) ⟨rfl, rfl, trivial⟩ st ⟨List.suffix_refl _, by simp, hn, (addL_nil _).symm⟩ ?_
 clear st
 rintro ⟨acc, σ1, k, o, cc⟩ w ⟨hsf1, hl1, hk1, hG⟩ st
 dsimp only at hsf1 hl1 hk1 hG st
 have hr1 := hsf1.trans hr
 obtain ⟨k, rfl⟩ : ∃ j, k = j + 1 := ⟨k - 1, by omega⟩
 have h40 := suf_len hr1
 refine vc_seq (vc_seq (vc_region ?_))
 refine vc_y rfl rfl (y_mv rfl) ?_
 refine vc_e (e_call [_] rfl rfl Tryz.call16 rfl (rok_any c σ1 hr1 _ (hC.k1 st.chg) (by exact st.res (i := 1) rfl)) ?_)
 rintro _ w ⟨rfl, cw⟩
 replace st := st.call0 cw
 refine vc_end (vq_then (vc_keep [(0, _), (3, _), (10, _)] ⟨rfl, rfl, rfl, trivial⟩ ?_))
 refine vc_ifs rfl ?_ ?_
 ·
  intro hc10
  try simp only [dn] at hc10
  have ho : σ1.ok := by simpa using hc10
  refine vc_code_skip (vq_then (vc_keep [(0, _), (3, _)] ⟨rfl, rfl, trivial⟩ (vc_block (vc_seq (vc_region ?_)))))
  refine vc_y rfl rfl (y_mv rfl) ?_
  refine vc_e (e_call [_] rfl rfl Tryz.call49 rfl (rname_any c σ1 hr1 _ (hC.k1 st.chg) (by exact st.res (i := 1) rfl)) ?_)
  rintro _ w ⟨rfl, hP1, cw⟩
  replace st := St.prs (b := c.rb) st 1 rfl cw (.inl (.head _)) hP1
  dsimp only [setNth] at st
  have hsf2 : (nameR c.e σ1).r <:+ σ1.r := nameR_suf
  have hr2 := hsf2.trans hr1
  have h41 := suf_len hsf2
  obtain ⟨σN, hσN⟩ : ∃ σN, nameR c.e σ1 = σN := ⟨_, rfl⟩
  rw [hσN] at hsf2 hr2 h41 st
  refine vc_y rfl rfl (y_mv rfl) ?_
  iterate 2 refine vc_y rfl rfl (y_ext rfl rfl) ?_
  iterate 2 refine vc_y rfl rfl (y_as rfl) ?_
  refine vc_end (vq_then (vc_keep [(0, _), (3, _), (4, _), (5, _)] ⟨rfl, rfl, rfl, rfl, trivial⟩ (vc_seq (vc_region ?_))))
  iterate 2 refine vc_y rfl rfl (y_mv rfl) ?_
  refine vc_y rfl rfl (y_bld (.agg #[_, _, _]) [(0, _), (2, _)] rfl (fun w => by simp [Instr.build, go_sem] <;> repeat' constructor)) ?_
  refine vc_e (e_al (l := [_, _, _]) st rfl rfl Tryz.zeroValue52 rfl ?_)
  intro b6 w hb6 st
  refine vc_e (e_sts (vs := [_, _, _]) st 0 rfl rfl rfl rfl rfl Tryz.sizeOf52 rfl rfl (by first | (right; assumption) | (left; simp)) ?_)
  intro w st; dsimp only [setNth, wr] at st
  refine vc_end (vq_then (vc_keep [(0, _), (3, _), (6, _)] ⟨rfl, rfl, rfl, trivial⟩ ?_))
  refine vc_cut (w0 := w0) (M := [c.rb]) (fun (x : Dc × RS) => [(0, .pointer (some ⟨c.rb, 0, none⟩)), (3, .slice o acc.length cc), (6, .pointer (some ⟨b6, 0, none⟩))]) (fun (x : Dc × RS) => [.blk b6 (.cells (dcL x.1).toArray 52 (0, 0)), .own (.slice o acc.length cc) 52 3 acc.length (acc.flatMap dcL), .blk c.rb (.cells (rcell c x.2).toArray c.T (0, 0))]) (fun (x : Dc × RS) _ => Done (run (initP c.e) σ1) x.1 x.2 ∧ x.2.r <:+ σ1.r ∧ x.2.r.length ≤ σ1.r.length) ?_ ?_
  ·
   refine vc_seq (vc_region ?_)
   refine vc_y rfl rfl (y_mv rfl) ?_
   refine vc_e (e_call [_, _] rfl rfl Tryz.call31 rfl (rtake_any c [61] σN hr2 _ (hC.k1 st.chg) (by exact st.res (i := 2) rfl)) ?_)
   rintro _ w ⟨rfl, hP1, cw⟩
   replace st := St.prs (b := c.rb) st 2 rfl cw (.inl (.head _)) hP1
   dsimp only [setNth] at st
   refine vc_end (vq_then (vc_keep [(0, _), (3, _), (6, _), (20, _)] ⟨rfl, rfl, rfl, rfl, trivial⟩ ?_))
   refine vc_ifs rfl ?_ ?_
   ·
    intro hc20
    try simp only [dn] at hc20
    have hT61 : takeB [61] σN = true := hc20
    have hoN := (takeB_pos hT61).1
    have htl61 := tail_lt (isT_ne (takeB_pos hT61).2)
    rw [takeR_pos hT61] at st
    obtain ⟨σA, hσA⟩ : ∃ σA, (RS.mk σN.r.tail σN.f) = σA := ⟨_, rfl⟩
    have hrA : σA.r <:+ c.ts := by rw [← hσA]; exact (List.tail_suffix _).trans hr2
    have hlA : σA.r.length < σN.r.length := by rw [← hσA]; exact htl61
    have hsfA : σA.r <:+ σ1.r := by rw [← hσA]; exact (List.tail_suffix _).trans hsf2
    have hoA : σA.ok := by rw [← hσA]; exact hoN
    rw [hσA] at st
    refine vc_seq (vc_region ?_)
    refine vc_y rfl rfl (y_mv rfl) ?_
    refine vc_e (e_call [_, _] rfl rfl Tryz.call31 rfl (rtake_any c [45] σA hrA _ (hC.k1 st.chg) (by exact st.res (i := 2) rfl)) ?_)
    rintro _ w ⟨rfl, hP1, cw⟩
    replace st := St.prs (b := c.rb) st 2 rfl cw (.inl (.head _)) hP1
    dsimp only [setNth] at st
    obtain ⟨σB, hσB⟩ : ∃ σB, takeR [45] σA = σB := ⟨_, rfl⟩
    have hsfB : σB.r <:+ σA.r := by rw [← hσB]; exact takeR_suf
    have hrB := hsfB.trans hrA
    have hlB := suf_len hsfB
    have hoB : σB.ok := by rw [← hσB]; unfold takeR; split <;> exact hoA
    obtain ⟨mB, hmB⟩ : ∃ mB, takeB [45] σA = mB := ⟨_, rfl⟩
    rw [hmB]
    rw [hσB] at st
    have hIN : ∀ σ4, ((here σB.r).kind = 3 ∧ σ4 = ⟨σB.r.tail, σB.f⟩) ∨ ((here σB.r).kind ≠ 3 ∧ σ4 = failR c.e 2 σB) → Done (run (initP c.e) σ1) ⟨nameT σ1, if mB = true then -((here σB.r).word : Int) else ((here σB.r).word : Int), (nameA σ1 : Int)⟩ σ4 := fun σ4 h4 => init_word (by rw [hσN]; exact hT61) (by rw [hσN, hσA]; exact hmB) (by rw [hσN, hσA]; exact hσB.symm) h4
    refine vc_y rfl rfl (y_as rfl) ?_
    refine vc_end (vq_then (vc_keep [(0, _), (3, _), (6, _), (7, _)] ⟨rfl, rfl, rfl, rfl, trivial⟩ (vc_seq (vc_region ?_))))
    refine vc_y rfl rfl (y_mv rfl) ?_
    refine vc_e (e_call [_] rfl rfl Tryz.call50 rfl (rhere_any c σB hrB _ (hC.k1 st.chg) (by exact st.res (i := 2) rfl)) ?_)
    rintro _ w ⟨rfl, cw⟩
    replace st := st.call0 cw
    have hwd := here_wd hC.wd hrB
    refine vc_e (e_al (l := [_, _, _, _]) st rfl rfl Tryz.zeroValue82 rfl ?_)
    intro b8 w hb8 st
    refine vc_e (e_sts (vs := [_, _, _, _]) st 0 rfl rfl rfl rfl rfl Tryz.sizeOf82 rfl rfl (by first | (right; assumption) | (left; simp)) ?_)
    intro w st; dsimp only [setNth, wr] at st
    refine vc_end (vq_then (vc_keep [(0, _), (3, _), (6, _), (7, _), (8, _)] ⟨rfl, rfl, rfl, rfl, rfl, trivial⟩ (vc_seq (vc_seq (vc_region ?_)))))
    refine vc_y rfl rfl (y_fa0 rfl Tryz.underlying82 rfl rfl Tryz.sizeOf80 rfl) ?_
    refine vc_y rfl rfl ((by exact y_ld st 0 rfl Tryz.isAgg80 rfl rfl)) ?_
    refine vc_y rfl rfl (y_nei rfl rfl) ?_
    refine vc_end (vq_then (vc_keep [(0, _), (3, _), (6, _), (7, _), (8, _), (27, _)] ⟨rfl, rfl, rfl, rfl, rfl, rfl, trivial⟩ ?_))
    refine vc_ifs rfl ?_ ?_
    ·
     intro hc27
     try simp only [dn] at hc27
     have hk3 : ¬ (here σB.r).kind = 3 := by rw [hereE_kind] at hc27; omega
     refine vc_region ?_
     refine vc_y rfl rfl (y_mv rfl) ?_
     refine vc_e (e_call [_, _] rfl rfl Tryz.call51 rfl (rfail_any c 2 σB hrB _ (hC.k1 st.chg) (by exact st.res (i := 3) rfl)) ?_)
     rintro _ w ⟨rfl, hP1, cw⟩
     replace st := St.prs (b := c.rb) st 3 rfl cw (.inl (.head _)) hP1
     dsimp only [setNth] at st
     refine vc_end (vq_then (vc_keep [(0, _), (3, _), (6, _), (7, _), (8, _)] ⟨rfl, rfl, rfl, rfl, rfl, trivial⟩ (vc_seq (vc_region ?_))))
     refine vc_y rfl rfl ((by exact y_faz (k := 2) rfl Tryz.underlying82 rfl rfl Tryz.sizeOf2 rfl)) ?_
     refine vc_y rfl rfl ((by exact y_ld st 0 rfl Tryz.isAgg2 rfl rfl)) ?_
     refine vc_y rfl rfl ((by exact y_faz (k := 1) rfl Tryz.underlying52 rfl rfl Tryz.sizeOf2 rfl)) ?_
     refine vc_e (e_st st 1 rfl rfl rfl rfl Tryz.sizeOf2 rfl rfl (by first | (right; assumption) | (left; simp)) ?_)
     intro w st; dsimp only [setNth, wr] at st
     refine vc_end (vq_then (vc_keep [(0, _), (3, _), (6, _), (7, _), (8, _)] ⟨rfl, rfl, rfl, rfl, rfl, trivial⟩ (vc_seq (vc_region ?_))))
     refine vc_y rfl rfl (y_mv rfl) ?_
     refine vc_end (vq_then (vc_keep [(0, _), (3, _), (6, _), (8, _), (42, _)] ⟨rfl, rfl, rfl, rfl, rfl, trivial⟩ ?_))
     refine vc_ifs rfl ?_ ?_
     ·
      intro hc42
      try simp only [dn] at hc42
      refine vc_region ?_
      refine vc_y rfl rfl ((by exact y_faz (k := 2) rfl Tryz.underlying82 rfl rfl Tryz.sizeOf2 rfl)) ?_
      refine vc_y rfl rfl ((by exact y_ld st 0 rfl Tryz.isAgg2 rfl rfl)) ?_
      refine vc_y rfl rfl (y_sub rfl rfl (Int.zero_sub _) (by rw [hereE_word]; omega) (by rw [hereE_word]; omega)) ?_
      refine vc_y rfl rfl ((by exact y_faz (k := 1) rfl Tryz.underlying52 rfl rfl Tryz.sizeOf2 rfl)) ?_
      refine vc_e (e_st st 1 rfl rfl rfl rfl Tryz.sizeOf2 rfl rfl (by first | (right; assumption) | (left; simp)) ?_)
      intro w st; dsimp only [setNth, wr] at st
      refine vc_end ?_
      refine vq_meet (⟨nameT σ1, -((here σB.r).word : Int), (nameA σ1 : Int)⟩, failR c.e 2 σB) ⟨rfl, rfl, rfl, trivial⟩ (by rw [hereE_word] at st; exact st.pick [1, 2, 3] rfl (by decide)) ?_
      ·
       have h := hIN _ (.inr ⟨hk3, rfl⟩)
       rw [hc42] at h
       exact ⟨h, by rw [failR_r]; exact hsfB.trans hsfA, by rw [failR_r]; omega⟩
     ·
      intro hc42
      try simp only [dn] at hc42
      refine vc_code_skip ?_
      refine vq_meet (⟨nameT σ1, ((here σB.r).word : Int), (nameA σ1 : Int)⟩, failR c.e 2 σB) ⟨rfl, rfl, rfl, trivial⟩ (by rw [hereE_word] at st; exact st.pick [1, 2, 3] rfl (by decide)) ?_
      ·
       have h := hIN _ (.inr ⟨hk3, rfl⟩)
       rw [hc42] at h
       exact ⟨h, by rw [failR_r]; exact hsfB.trans hsfA, by rw [failR_r]; omega⟩
    ·
     intro hc27
     try simp only [dn] at hc27
     have hk3 : (here σB.r).kind = 3 := by rw [hereE_kind] at hc27; omega
     have hne := kind_ne hk3 (by decide)
     have htl := tail_lt hne
     have ht2 : σB.r.tail.length = σB.r.length - 1 := List.length_tail
     have hlts := suf_len hrB
     refine vc_seq (vc_region ?_)
     refine vc_y rfl rfl (y_mv rfl) ?_
     refine vc_e (e_call [_] rfl rfl Tryz.call16 rfl (rok_any c σB hrB _ (hC.k1 st.chg) (by exact st.res (i := 3) rfl)) ?_)
     rintro _ w ⟨rfl, cw⟩
     replace st := st.call0 cw
     refine vc_end (vq_then (vc_keep [(0, _), (3, _), (6, _), (7, _), (8, _), (31, _)] ⟨rfl, rfl, rfl, rfl, rfl, rfl, trivial⟩ ?_))
     refine vc_ifs rfl ?_ ?_
     ·
      intro hc31
      try simp only [dn] at hc31
      refine vc_region ?_
      refine vc_y rfl rfl (y_mv rfl) ?_
      refine vc_y rfl rfl (y_nck rfl) ?_
      refine vc_y rfl rfl ((by exact y_faz (k := 1) rfl Tryz.underlying47 rfl rfl Tryz.sizeOf3 rfl)) ?_
      refine vc_y rfl rfl ((by exact y_ld st 3 rfl Tryz.isAgg3 rfl rfl)) ?_
      refine vc_y rfl rfl (y_add rfl rfl (by omega : _ = ((c.ts.length - σB.r.tail.length : Nat) : Int)) (by omega) (by omega)) ?_
      refine vc_y rfl rfl (y_nck rfl) ?_
      refine vc_y rfl rfl ((by exact y_faz (k := 1) rfl Tryz.underlying47 rfl rfl Tryz.sizeOf3 rfl)) ?_
      refine vc_e (e_st st 3 rfl rfl rfl rfl Tryz.sizeOf3 rfl rfl (by first | (right; assumption) | (left; simp)) ?_)
      intro w st; dsimp only [setNth, wr] at st
      refine vc_end (vq_then (vc_keep [(0, _), (3, _), (6, _), (7, _), (8, _)] ⟨rfl, rfl, rfl, rfl, rfl, trivial⟩ (vc_seq (vc_region ?_))))
      refine vc_y rfl rfl ((by exact y_faz (k := 2) rfl Tryz.underlying82 rfl rfl Tryz.sizeOf2 rfl)) ?_
      refine vc_y rfl rfl ((by exact y_ld st 0 rfl Tryz.isAgg2 rfl rfl)) ?_
      refine vc_y rfl rfl ((by exact y_faz (k := 1) rfl Tryz.underlying52 rfl rfl Tryz.sizeOf2 rfl)) ?_
      refine vc_e (e_st st 1 rfl rfl rfl rfl Tryz.sizeOf2 rfl rfl (by first | (right; assumption) | (left; simp)) ?_)
      intro w st; dsimp only [setNth, wr] at st
      refine vc_end (vq_then (vc_keep [(0, _), (3, _), (6, _), (7, _), (8, _)] ⟨rfl, rfl, rfl, rfl, rfl, trivial⟩ (vc_seq (vc_region ?_))))
      refine vc_y rfl rfl (y_mv rfl) ?_
      refine vc_end (vq_then (vc_keep [(0, _), (3, _), (6, _), (8, _), (42, _)] ⟨rfl, rfl, rfl, rfl, rfl, trivial⟩ ?_))
      refine vc_ifs rfl ?_ ?_
      ·
       intro hc42
       try simp only [dn] at hc42
       refine vc_region ?_
       refine vc_y rfl rfl ((by exact y_faz (k := 2) rfl Tryz.underlying82 rfl rfl Tryz.sizeOf2 rfl)) ?_
       refine vc_y rfl rfl ((by exact y_ld st 0 rfl Tryz.isAgg2 rfl rfl)) ?_
       refine vc_y rfl rfl (y_sub rfl rfl (Int.zero_sub _) (by rw [hereE_word]; omega) (by rw [hereE_word]; omega)) ?_
       refine vc_y rfl rfl ((by exact y_faz (k := 1) rfl Tryz.underlying52 rfl rfl Tryz.sizeOf2 rfl)) ?_
       refine vc_e (e_st st 1 rfl rfl rfl rfl Tryz.sizeOf2 rfl rfl (by first | (right; assumption) | (left; simp)) ?_)
       intro w st; dsimp only [setNth, wr] at st
       refine vc_end ?_
       refine vq_meet (⟨nameT σ1, -((here σB.r).word : Int), (nameA σ1 : Int)⟩, ⟨σB.r.tail, σB.f⟩) ⟨rfl, rfl, rfl, trivial⟩ (by rw [hereE_word] at st; exact st.pick [1, 2, 3] rfl (by decide)) ?_
       ·
        have h := hIN _ (.inl ⟨hk3, rfl⟩)
        rw [hc42] at h
        exact ⟨h, (List.tail_suffix _).trans (hsfB.trans hsfA), by dsimp only; omega⟩
      ·
       intro hc42
       try simp only [dn] at hc42
       refine vc_code_skip ?_
       refine vq_meet (⟨nameT σ1, ((here σB.r).word : Int), (nameA σ1 : Int)⟩, ⟨σB.r.tail, σB.f⟩) ⟨rfl, rfl, rfl, trivial⟩ (by rw [hereE_word] at st; exact st.pick [1, 2, 3] rfl (by decide)) ?_
       ·
        have h := hIN _ (.inl ⟨hk3, rfl⟩)
        rw [hc42] at h
        exact ⟨h, (List.tail_suffix _).trans (hsfB.trans hsfA), by dsimp only; omega⟩
     ·
      intro hc31
      exfalso; simp [hoB] at hc31
   ·
    intro hc20
    try simp only [dn] at hc20
    have hF61 : takeB [61] σN = false := hc20
    rw [takeR_neg hF61] at st
    refine vc_code_skip ?_
    refine vq_meet (⟨nameT σ1, 0, (nameA σ1 : Int)⟩, σN) ⟨rfl, rfl, rfl, trivial⟩ (st.pick [0, 1, 2] rfl (by decide)) ?_
    ·
     have h := init_none (e := c.e) (σ := σ1) (by rw [hσN]; exact hF61)
     rw [hσN] at h
     exact ⟨h, hsf2, h41⟩
  ·
   clear st
   rintro ⟨d, σ2⟩ w ⟨hd, hsf3, hl3⟩ st
   dsimp only at hd hsf3 hl3 st
   have hr3 := hsf3.trans hr1
   refine vc_seq (vc_region ?_)
   refine vc_y rfl rfl (y_mv rfl) ?_
   refine vc_y rfl rfl ((by exact y_lda (vs := [_, _, _]) st 0 rfl Tryz.isAgg52 Tryz.sizeOf52 rfl rfl)) ?_
   refine vc_e (e_bs1 (l := [_, _, _]) st rfl rfl rfl rfl Tryz.underlying22 Tryz.sizeOf52 rfl rfl rfl Tryz.zeroValue52 ?_)
   intro b49 w hb49 st
   refine vc_e (e_app (bytes := 32) st 2 0 rfl rfl rfl rfl rfl rfl Tryz.underlying22 Tryz.info52 rfl rfl rfl rfl rfl (by simp) rfl rfl (by unfold maxLen; omega) (by omega) ?_)
   intro oaQ capQ w st; dsimp only [setNth] at st
   replace st := st.pick [2, 3] rfl (by decide)
   refine vc_y rfl rfl (y_as rfl) ?_
   refine vc_end (vq_then (vc_keep [(0, _), (3, _)] ⟨rfl, rfl, trivial⟩ (vc_seq (vc_region ?_))))
   refine vc_y rfl rfl (y_mv rfl) ?_
   refine vc_e (e_call [_, _] rfl rfl Tryz.call31 rfl (rtake_any c [44] σ2 hr3 _ (hC.k1 st.chg) (by exact st.res (i := 1) rfl)) ?_)
   rintro _ w ⟨rfl, hP1, cw⟩
   replace st := St.prs (b := c.rb) st 1 rfl cw (.inl (.head _)) hP1
   dsimp only [setNth] at st
   refine vc_y rfl rfl (y_not rfl) ?_
   refine vc_end (vq_then (vc_keep [(0, _), (3, _), (53, _)] ⟨rfl, rfl, rfl, trivial⟩ ?_))
   refine vc_ifs rfl ?_ ?_
   ·
    intro hc53
    try simp only [dn] at hc53
    have hF : takeB [44] σ2 = false := by simpa using hc53
    rw [takeR_neg hF] at st
    refine vc_exit (vq_block_other rfl (vq_then_exit (vq_block_exit (vq_then (vc_keep [(0, _), (3, _)] ⟨rfl, rfl, trivial⟩ (vc_seq (vc_region ?_)))))))
    refine vc_y rfl rfl (y_mv rfl) ?_
    refine vc_e (e_call [_, _] rfl rfl Tryz.call52 rfl (rwant_any c [59] σ2 hr3 _ (hC.k1 st.chg) (by exact st.res (i := 1) rfl)) ?_)
    rintro _ w ⟨rfl, hP1, cw⟩
    replace st := St.prs (b := c.rb) st 1 rfl cw (.inl (.head _)) hP1
    dsimp only [setNth] at st
    refine vc_end (vq_then (vc_keep [(3, _)] ⟨rfl, trivial⟩ (vc_seq (vc_region ?_))))
    refine vc_y rfl rfl (y_mv rfl) ?_
    refine vc_y rfl rfl (y_as rfl) ?_
    refine vc_end (vq_then (vc_keep [(2, _)] ⟨rfl, trivial⟩ (vc_ret ?_)))
    refine vq_ret1 st (.inl rfl) Tryz.results32 (.tmp rfl) ?_
    refine ⟨_, rfl, ?_⟩
    have hown := st.ownNw (i := 0) rfl
    exact ⟨acc ++ [d], wantR c.e [59] σ2, by rw [hG]; exact (list_last hd hF).add, wantR_suf.trans (hsf3.trans hsf1), (by exact st.res (i := 1) rfl), st.chg, oaQ, capQ, obk oaQ, by simp, ⟨by simpa [dcL] using hown.1, rfl⟩, hown.2, by simp; omega⟩
   ·
    intro hc53
    try simp only [dn] at hc53
    have hT : takeB [44] σ2 = true := by simpa using hc53
    have htl := tail_lt (isT_ne (takeB_pos hT).2)
    rw [takeR_pos hT] at st
    refine vc_code_skip (vq_block ?_)
    refine vq_again (acc ++ [d], ⟨σ2.r.tail, σ2.f⟩, k, oaQ, capQ)  ⟨rfl, by simp [find, put], trivial⟩ (by simpa [dcL] using st) ?_ ?_
    ·
     exact ⟨(List.tail_suffix _).trans (hsf3.trans hsf1), by simp; simp at htl; omega, by dsimp only; omega, hG.trans (list_more hd hT)⟩
    ·
     dsimp only; omega
 ·
  intro hc10
  try simp only [dn] at hc10
  have ho : ¬ σ1.ok := by simpa using hc10
  refine vc_exit (vq_then_exit (vq_then_exit (vq_block_exit (vq_then (vc_keep [(0, _), (3, _)] ⟨rfl, rfl, trivial⟩ (vc_seq (vc_region ?_)))))))
  refine vc_y rfl rfl (y_mv rfl) ?_
  refine vc_e (e_call [_, _] rfl rfl Tryz.call52 rfl (rwant_any c [59] σ1 hr1 _ (hC.k1 st.chg) (by exact st.res (i := 1) rfl)) ?_)
  rintro _ w ⟨rfl, hP1, cw⟩
  replace st := St.prs (b := c.rb) st 1 rfl cw (.inl (.head _)) hP1
  dsimp only [setNth] at st
  refine vc_end (vq_then (vc_keep [(3, _)] ⟨rfl, trivial⟩ (vc_seq (vc_region ?_))))
  refine vc_y rfl rfl (y_mv rfl) ?_
  refine vc_y rfl rfl (y_as rfl) ?_
  refine vc_end (vq_then (vc_keep [(2, _)] ⟨rfl, trivial⟩ (vc_ret ?_)))
  refine vq_ret1 st (.inl rfl) Tryz.results32 (.tmp rfl) ?_
  refine ⟨_, rfl, ?_⟩
  have hown := st.ownNw (i := 0) rfl
  exact ⟨acc, wantR c.e [59] σ1, by rw [hG]; exact (list_bad ho).add_nil, wantR_suf.trans hsf1, (by exact st.res (i := 1) rfl), st.chg, o, cc, obk o, rfl, ⟨hown.1, rfl⟩, hown.2, by have := suf_len hr; omega⟩

theorem rround_any (c : RCtx) (σ : RS) (hr : σ.r <:+ c.ts) (w : World) (hC : RCok c w) (hP : RAt c σ w) : Ret Tryz.prog 80 [.pointer (some ⟨c.rb, 0, none⟩)] w (RRes c σ (condP c.e) w (HR w)) := by
 refine ret_of [_] Tryz.func80 rfl Tryz.ntmps80 rfl ?_
  
 obtain ⟨w0, rfl⟩ : ∃ w0, w0 = w := ⟨_, rfl⟩
 have hP' := hP
 dsimp only [RAt, rcell] at hP
 have st := St.of1 [c.rb] hP
 have h20 := hC.len
 have hl := suf_len hr
 refine vc_seq (vc_region ?_)
 refine vc_y rfl rfl (y_as rfl) ?_
 refine vc_end (vq_then (vc_keep [(0, _)] ⟨rfl, trivial⟩ (vc_seq (vc_region ?_))))
 refine vc_y rfl rfl (y_mv rfl) ?_
 refine vc_e (e_call [_, _] rfl rfl Tryz.call52 rfl (rwant_any c [40] σ hr _ (hC.k1 st.chg) (by exact st.res (i := 0) rfl)) ?_)
 rintro _ w ⟨rfl, hP1, cw⟩
 replace st := St.prs (b := c.rb) st 0 rfl cw (.inl (.head _)) hP1
 dsimp only [setNth] at st
 have hsf1 : (wantR c.e [40] σ).r <:+ σ.r := wantR_suf
 have hr1 := hsf1.trans hr
 refine vc_end (vq_then (vc_keep [(0, _)] ⟨rfl, trivial⟩ (vc_seq (vc_region ?_))))
 refine vc_y rfl rfl (y_mv rfl) ?_
 refine vc_e (e_call [_, _, _] rfl rfl Tryz.call82 rfl (rexpr_any c (wantR c.e [40] σ) hr1 _ (hC.k1 st.chg) (by exact st.res (i := 0) rfl)) ?_)
 rintro _ w ⟨x, σ2, hD, hsf, hP1, cw, ox, cx, Sx, rfl, hQ, hN⟩
 have hNSx := hN.le st.chg.size
 replace st := St.prsT (b := c.rb) st 0 rfl cw (.inl (.head _)) hP1 (holds_ex hQ) hN.2
 dsimp only [setNth] at st
 have hr2 := hsf.trans hr1
 refine vc_e (e_al (l := [_, _, _, _, _, _]) st rfl rfl Tryz.zeroValue60 rfl ?_)
 intro b3 w hb3 st
 refine vc_e (e_sts (vs := [_, _, _, _, _, _]) st 0 rfl rfl rfl rfl rfl Tryz.sizeOf60 rfl rfl (by first | (right; assumption) | (left; simp)) ?_)
 intro w st; dsimp only [setNth, wr] at st
 refine vc_end (vq_then (vc_keep [(0, _), (3, _)] ⟨rfl, rfl, trivial⟩ (vc_seq (vc_region ?_))))
 refine vc_y rfl rfl (y_mv rfl) ?_
 refine vc_e (e_call [_, _] rfl rfl Tryz.call52 rfl (rwant_any c [41] σ2 hr2 _ (hC.k1 st.chg) (by exact st.res (i := 2) rfl)) ?_)
 rintro _ w ⟨rfl, hP1, cw⟩
 replace st := St.prs (b := c.rb) st 2 rfl cw (.inl (.head _)) hP1
 dsimp only [setNth] at st
 refine vc_end (vq_then (vc_keep [(3, _)] ⟨rfl, trivial⟩ (vc_seq (vc_region ?_))))
 refine vc_y rfl rfl ((by exact y_lda (vs := [_, _, _, _, _, _]) st 0 rfl Tryz.isAgg60 Tryz.sizeOf60 rfl rfl)) ?_
 refine vc_e (e_bs1 (l := [_, _, _, _, _, _]) st rfl rfl rfl rfl Tryz.underlying54 Tryz.sizeOf60 rfl rfl rfl Tryz.zeroValue60 ?_)
 intro b11 w hb11 st
 refine vc_y rfl rfl (y_as rfl) ?_
 refine vc_end (vq_then (vc_keep [(2, _)] ⟨rfl, trivial⟩ (vc_ret ?_)))
 refine vq_ret1 st (.inl rfl) Tryz.results80 (.tmp rfl) ?_
 refine ⟨_, rfl, ?_⟩
 exact ⟨x, wantR c.e [41] σ2, cond_done hD, wantR_suf.trans (hsf.trans hsf1), (by exact st.res (i := 3) rfl), st.chg, some ⟨b11, 0, none⟩, 1, b11 :: Sx, rfl, ex_one (st.res (i := 0) rfl) (by exact (st.res (i := 2) rfl).1), Nw.app (S := [b11]) ⟨by simp, by simpa using hb11⟩ hNSx (fun b hb hb' => by exact st.ne (i := 0) (j := 2) (by decide) rfl rfl b hb hb')⟩

end Go.Proofs.YtggnfanphcaamaaGreatDoor


namespace Go.Proofs.YtggnfanphcaamaaGreatDoor
open Go.RowKit Sx LexS ParS
set_option linter.unusedVariables false
set_option linter.unusedSimpArgs false
/-- readers of statements, of rows of them, of blocks, along so many tokens -/
def SMR (c : RCtx) (n : Nat) : Prop := ∀ (m d : Nat), d + m = 64 → ∀ (σ : RS), σ.r <:+ c.ts → σ.ok → σ.r.length ≤ n → ∀ (w : World), RCok c w → RAt c σ w → Ret Tryz.prog 64 [.pointer (some ⟨c.rb, 0, none⟩), .int .i64 (d : Int)] w (RRes c σ (stmtP c.e m) w (HS w))
def SSR (c : RCtx) (n : Nat) : Prop := ∀ (m d : Nat), d ≤ 65 → ∀ (σ : RS), σ.r <:+ c.ts → (σ.ok → d + m = 64 ∧ σ.r.length ≤ n) → ∀ (w : World), RCok c w → RAt c σ w → Ret Tryz.prog 53 [.pointer (some ⟨c.rb, 0, none⟩), .int .i64 (d : Int)] w (RRes c σ (restP c.e m) w (HB w))
def BKR (c : RCtx) (n : Nat) : Prop := ∀ (m d : Nat), d + m = 64 → ∀ (σ : RS), σ.r <:+ c.ts → (σ.ok → σ.r.length ≤ n) → ∀ (w : World), RCok c w → RAt c σ w → Ret Tryz.prog 81 [.pointer (some ⟨c.rb, 0, none⟩), .int .i64 (d : Int)] w (RRes c σ (blkP c.e m) w (HB w))
/-- how long a reader has still to go -/
def RS.mu (σ : RS) : Nat := if σ.ok then σ.r.length + 1 else 0

set_option maxHeartbeats 1000000 in
theorem rstmts_of (c : RCtx) (n : Nat) (hS : SMR c n) : SSR c n := by
 intro m d hd σ hr hn w hC hP
 refine ret_of [_, _] Tryz.func53 rfl Tryz.ntmps53 rfl ?_
  
 obtain ⟨w0, rfl⟩ : ∃ w0, w0 = w := ⟨_, rfl⟩
 have hP' := hP
 dsimp only [RAt, rcell] at hP
 have st := St.of1 [c.rb] hP
 have h20 := hC.len
 have hl := suf_len hr
 replace st := St.pushR (r := .tree [] (fun w => SmSs 60 56 w [] [] [])) st (Chg.refl _ _) (holds_smss (by simp [SmSs])) (by simp [Res.at?])
 replace st := st.ownNil 56 7
 refine vc_seq (vc_region ?_)
 refine vc_y rfl rfl (y_as rfl) ?_
 refine vc_end (vq_then (vc_keep [(0, _), (1, _)] ⟨rfl, rfl, trivial⟩ (vc_seq (vc_region ?_))))
 refine vc_y rfl rfl (y_as rfl) ?_
 refine vc_end (vq_then (vc_keep [(0, _), (1, _), (5, _)] ⟨rfl, rfl, rfl, trivial⟩ (vc_seq (vc_block ?_))))
 refine vc_loop (w0 := w0) (M := [c.rb]) (fun (y : (List Sm × RS × Nat × Option Addr × Nat × List Value × List Nat)) => [(0, .pointer (some ⟨c.rb, 0, none⟩)), (1, .int .i64 (d : Int)), (5, .slice y.2.2.2.1 y.1.length y.2.2.2.2.1)]) (fun (y : (List Sm × RS × Nat × Option Addr × Nat × List Value × List Nat)) => [.own (.slice y.2.2.2.1 y.1.length y.2.2.2.2.1) 56 7 y.1.length y.2.2.2.2.2.1, .tree y.2.2.2.2.2.2 (fun w => SmSs 60 56 w y.1 y.2.2.2.2.2.1 y.2.2.2.2.2.2), .blk c.rb (.cells (rcell c y.2.1).toArray c.T (0, 0))]) (fun (y : (List Sm × RS × Nat × Option Addr × Nat × List Value × List Nat)) _ => y.2.1.r <:+ σ.r ∧ (y.2.1.ok → σ.ok ∧ y.1.length + y.2.1.r.length ≤ σ.r.length ∧ y.2.1.r.length < y.2.2.1) ∧ Nw w0.heap.size y.2.2.2.2.2.2 ∧ run (restP c.e m) σ = addL y.1 (run (restW (stmtP c.e m) y.2.2.1) y.2.1)) (fun (y : (List Sm × RS × Nat × Option Addr × Nat × List Value × List Nat)) => RS.mu y.2.1) ([], σ, σ.r.length + 1, none, 0, [], []) ⟨rfl, rfl, rfl, trivial⟩ st ⟨List.suffix_refl _, fun ho => ⟨ho, by simp, by simp⟩, Nw.nil, (addL_nil _).symm⟩ ?_
 clear st
 rintro ⟨acc, σ1, k, oq, cq, xs, Sq⟩ w ⟨hsf1, hl1, hSq, hG⟩ st
 dsimp only at hsf1 hl1 hSq hG st
 have hr1 := hsf1.trans hr
 have h40 := suf_len hr1
 refine vc_seq (vc_seq (vc_region ?_))
 refine vc_y rfl rfl (y_mv rfl) ?_
 refine vc_e (e_call [_] rfl rfl Tryz.call16 rfl (rok_any c σ1 hr1 _ (hC.k1 st.chg) (by exact st.res (i := 2) rfl)) ?_)
 rintro _ w ⟨rfl, cw⟩
 replace st := st.call0 cw
 refine vc_e (e_mvb rfl rfl rfl ?_ ?_)
 ·
  intro hg8
  try simp only [dn] at hg8
  have ho : σ1.ok := by simpa using hg8
  obtain ⟨ho0, hl2, hk1⟩ := hl1 ho
  obtain ⟨hdm, hn0⟩ := hn ho0
  obtain ⟨k, rfl⟩ : ∃ j, k = j + 1 := ⟨k - 1, by omega⟩
  refine vc_y rfl rfl (y_mv rfl) ?_
  refine vc_e (e_call [_, _] rfl rfl Tryz.call31 rfl (rtake_any c [125] σ1 hr1 _ (hC.k1 st.chg) (by exact st.res (i := 2) rfl)) ?_)
  rintro _ w ⟨rfl, hP1, cw⟩
  replace st := St.prs (b := c.rb) st 2 rfl cw (.inl (.head _)) hP1
  dsimp only [setNth] at st
  refine vc_y rfl rfl (y_not rfl) ?_
  refine vc_y rfl rfl (y_pickt rfl rfl) ?_
  refine vc_end (vq_then (vc_keep [(0, _), (1, _), (5, _), (12, _)] ⟨rfl, rfl, rfl, rfl, trivial⟩ ?_))
  refine vc_ifs rfl ?_ ?_
  ·
   intro hc12
   try simp only [dn] at hc12
   have hF : takeB [125] σ1 = false := by simpa using hc12
   rw [takeR_neg hF] at st
   refine vc_code_skip (vq_then (vc_keep [(0, _), (1, _), (5, _)] ⟨rfl, rfl, rfl, trivial⟩ (vc_block (vc_region ?_))))
   iterate 3 refine vc_y rfl rfl (y_mv rfl) ?_
   refine vc_e (e_call [_, _] rfl rfl Tryz.call64 rfl (hS m d hdm σ1 hr1 ho (by omega) _ (hC.k1 st.chg) (by exact st.res (i := 2) rfl)) ?_)
   rintro _ w ⟨s, σ2, hD, hsf, hP1, cw, oe, ob, ol, ce, cb, cl, Ss, rfl, hQ, hN⟩
   have hNSs := hN.le st.chg.size
   replace st := St.prsT (b := c.rb) st 2 rfl cw (.inl (.head _)) hP1 (holds_sms hQ) hN.2
   dsimp only [setNth] at st
   have hlt2 : σ2.ok → σ2.r.length < σ1.r.length := fun h => stmt_len m _ _ _ (hD.ok_inv h).2
   refine vc_e (e_bs1 (l := [_, _, _, _, _, _, _]) st rfl rfl rfl rfl Tryz.underlying48 Tryz.sizeOf56 rfl rfl rfl Tryz.zeroValue56 ?_)
   intro b17 w hb17 st
   refine vc_e (e_app (bytes := 120) st 2 0 rfl rfl rfl rfl rfl rfl Tryz.underlying48 Tryz.info56 rfl rfl rfl rfl rfl (by simp) rfl rfl (by unfold maxLen; omega) (by omega) ?_)
   intro oaQ capQ w st; dsimp only [setNth] at st
   have hS2 := SmSs.snoc (st.res (i := 3) rfl).1 (st.res (i := 1) rfl).1
   have hN2 := hSq.app hNSs (st.ne (i := 3) (j := 1) (by decide) rfl rfl)
   replace st := ((st.pick [3, 1, 2, 4] rfl (by decide)).join (q := .tree (Sq ++ Ss) fun w => SmSs 60 56 w (acc ++ [s]) (xs ++ smC s oe ob ol ce cb cl) (Sq ++ Ss)) (fun k hk => List.mem_append.1 hk) (holds_smss hS2)).pick [1, 0, 2] rfl (by decide)
   refine vc_y rfl rfl (y_as rfl) ?_
   refine vc_end (vq_block ?_)
   refine vq_again (acc ++ [s], σ2, k, oaQ, capQ, xs ++ smC s oe ob ol ce cb cl, Sq ++ Ss)  (by refine ⟨rfl, rfl, ?_, trivial⟩; simp [find, put]) (by simpa using st) ?_ ?_
   ·
    exact ⟨hsf.trans hsf1, fun h2 => ⟨ho0, by simp; have := hlt2 h2; omega, by have := hlt2 h2; dsimp only; omega⟩, hN2, hG.trans (rest_step ho hF hD)⟩
   ·
    unfold RS.mu; dsimp only; rw [if_pos ho]; split
    ·
     have := hlt2 (by assumption); omega
    ·
     omega
  ·
   intro hc12
   try simp only [dn] at hc12
   have hT : takeB [125] σ1 = true := by simpa using hc12
   rw [takeR_pos hT] at st
   refine vc_exit (vq_then_exit (vq_then_exit (vq_block_exit (vq_then (vc_keep [(5, _)] ⟨rfl, trivial⟩ (vc_seq (vc_region ?_)))))))
   refine vc_y rfl rfl (y_mv rfl) ?_
   refine vc_y rfl rfl (y_as rfl) ?_
   refine vc_end (vq_then (vc_keep [(4, _)] ⟨rfl, trivial⟩ (vc_ret ?_)))
   refine vq_ret1 st (.inl rfl) Tryz.results53 (.tmp rfl) ?_
   refine ⟨_, rfl, ?_⟩
   have hown := st.ownNw (i := 0) rfl
   exact ⟨acc, ⟨σ1.r.tail, σ1.f⟩, by rw [hG]; exact (rest_end hT).add_nil, (List.tail_suffix _).trans hsf1, (by exact st.res (i := 2) rfl), st.chg, oq, cq, obk oq ++ Sq, rfl, ⟨xs, Sq, hown.1, rfl, (st.res (i := 1) rfl).1⟩, hown.2.app hSq (fun b hb => st.ne (i := 0) (j := 1) (by decide) rfl rfl b (by simpa [Res.at?, obk_own] using hb))⟩
 ·
  intro hg8
  try simp only [dn] at hg8
  have ho : ¬ σ1.ok := by simpa using hg8
  iterate 3 refine vc_e (e_skip rfl rfl ?_)
  refine vc_y rfl rfl (y_pickf rfl rfl) ?_
  refine vc_end (vq_then (vc_keep [(0, _), (1, _), (5, _), (12, _)] ⟨rfl, rfl, rfl, rfl, trivial⟩ ?_))
  refine vc_iff rfl ?_
  refine vc_exit (vq_then_exit (vq_then_exit (vq_block_exit (vq_then (vc_keep [(5, _)] ⟨rfl, trivial⟩ (vc_seq (vc_region ?_)))))))
  refine vc_y rfl rfl (y_mv rfl) ?_
  refine vc_y rfl rfl (y_as rfl) ?_
  refine vc_end (vq_then (vc_keep [(4, _)] ⟨rfl, trivial⟩ (vc_ret ?_)))
  refine vq_ret1 st (.inl rfl) Tryz.results53 (.tmp rfl) ?_
  refine ⟨_, rfl, ?_⟩
  have hown := st.ownNw (i := 0) rfl
  exact ⟨acc, σ1, by rw [hG, run_bad ho]; exact ⟨rfl, ho⟩, hsf1, (by exact st.res (i := 2) rfl), st.chg, oq, cq, obk oq ++ Sq, rfl, ⟨xs, Sq, hown.1, rfl, (st.res (i := 1) rfl).1⟩, hown.2.app hSq (fun b hb => st.ne (i := 0) (j := 1) (by decide) rfl rfl b (by simpa [Res.at?, obk_own] using hb))⟩

theorem rblock_of (c : RCtx) (n : Nat) (hS : SSR c n) : BKR c n := by
 intro m d hd σ hr hn w hC hP
 refine ret_of [_, _] Tryz.func81 rfl Tryz.ntmps81 rfl ?_
  
 obtain ⟨w0, rfl⟩ : ∃ w0, w0 = w := ⟨_, rfl⟩
 have hP' := hP
 dsimp only [RAt, rcell] at hP
 have st := St.of1 [c.rb] hP
 have h20 := hC.len
 have hl := suf_len hr
 refine vc_seq (vc_region ?_)
 refine vc_y rfl rfl (y_as rfl) ?_
 refine vc_end (vq_then (vc_keep [(0, _), (1, _)] ⟨rfl, rfl, trivial⟩ (vc_seq (vc_seq (vc_region ?_)))))
 refine vc_y rfl rfl (y_mv rfl) ?_
 refine vc_e (e_call [_] rfl rfl Tryz.call16 rfl (rok_any c σ hr _ (hC.k1 st.chg) (by exact st.res (i := 0) rfl)) ?_)
 rintro _ w ⟨rfl, cw⟩
 replace st := st.call0 cw
 refine vc_e (e_mvb rfl rfl rfl ?_ ?_)
 ·
  intro hg7
  try simp only [dn] at hg7
  have ho : σ.ok := by simpa using hg7
  refine vc_y rfl rfl (y_mv rfl) ?_
  refine vc_e (e_call [_, _] rfl rfl Tryz.call48 rfl (ris_any c [123] σ hr _ (hC.k1 st.chg) (by exact st.res (i := 0) rfl)) ?_)
  rintro _ w ⟨rfl, cw⟩
  replace st := st.call0 cw
  refine vc_y rfl rfl (y_pickt rfl rfl) ?_
  refine vc_e (e_mvb rfl rfl rfl ?_ ?_)
  ·
   intro hg11
   try simp only [dn] at hg11
   refine vc_y rfl rfl (y_mv rfl) ?_
   refine vc_y rfl rfl (y_geq rfl rfl) ?_
   refine vc_y rfl rfl (y_pickt rfl rfl) ?_
   refine vc_end (vq_then (vc_keep [(0, _), (1, _), (14, _)] ⟨rfl, rfl, rfl, trivial⟩ ?_))
   refine vc_ifs rfl ?_ ?_
   ·
    intro hc14
    try simp only [dn] at hc14
    have hT : takeB [123] σ = true := by rw [takeB_ok ho]; simp_all
    obtain rfl : m = 0 := by omega
    refine vc_region ?_
    refine vc_y rfl rfl (y_mv rfl) ?_
    refine vc_e (e_call [_, _] rfl rfl Tryz.call51 rfl (rfail_any c 3 σ hr _ (hC.k1 st.chg) (by exact st.res (i := 0) rfl)) ?_)
    rintro _ w ⟨rfl, hP1, cw⟩
    replace st := St.prs (b := c.rb) st 0 rfl cw (.inl (.head _)) hP1
    dsimp only [setNth] at st
    refine vc_end (vq_then (vc_keep [(0, _), (1, _)] ⟨rfl, rfl, trivial⟩ (vc_seq (vc_region ?_))))
    refine vc_y rfl rfl (y_mv rfl) ?_
    refine vc_e (e_call [_, _] rfl rfl Tryz.call52 rfl (rwant_any c [123] (failR c.e 3 σ) (by rw [failR_r]; exact hr) _ (hC.k1 st.chg) (by exact st.res (i := 0) rfl)) ?_)
    rintro _ w ⟨rfl, hP1, cw⟩
    replace st := St.prs (b := c.rb) st 0 rfl cw (.inl (.head _)) hP1
    dsimp only [setNth] at st
    refine vc_end (vq_then (vc_keep [(0, _), (1, _)] ⟨rfl, rfl, trivial⟩ (vc_seq (vc_region ?_))))
    iterate 2 refine vc_y rfl rfl (y_mv rfl) ?_
    refine vc_y rfl rfl (y_add rfl rfl (by omega : _ = ((d + 1 : Nat) : Int)) (by omega) (by omega)) ?_
    refine vc_e (e_call [_, _] rfl rfl Tryz.call53 rfl (hS 0 (d + 1) (by omega) (wantR c.e [123] (failR c.e 3 σ)) (wantR_suf.trans (by first | exact hr | (rw [failR_r]; exact hr))) (fun h => absurd h (by rw [wantR_bad (failR_not (by decide))]; exact failR_not (by decide))) _ (hC.k1 st.chg) (by exact st.res (i := 0) rfl)) ?_)
    rintro _ w ⟨l, σ2, hD, hsf, hP1, cw, ob, cb, Sb, rfl, hQ, hN⟩
    have hNSb := hN.le st.chg.size
    replace st := St.prsT (b := c.rb) st 0 rfl cw (.inl (.head _)) hP1 (holds_sm hQ) hN.2
    dsimp only [setNth] at st
    have hbad := failR_not (e := c.e) (k := 3) (σ := σ) (by decide)
    rw [wantR_bad hbad] at hD hsf
    rw [run_bad hbad] at hD
    rw [failR_r] at hsf
    refine vc_y rfl rfl (y_as rfl) ?_
    refine vc_end (vq_then (vc_keep [(4, _)] ⟨rfl, trivial⟩ (vc_ret ?_)))
    refine vq_ret1 st (.inl rfl) Tryz.results81 (.tmp rfl) ?_
    refine ⟨_, rfl, ?_⟩
    exact ⟨l, σ2, block_deep hT hD.1, hsf, (by exact st.res (i := 1) rfl), st.chg, ob, cb, Sb, rfl, (by exact (st.res (i := 0) rfl).1), hNSb⟩
   ·
    intro hc14
    try simp only [dn] at hc14
    have hm : ¬ (takeB [123] σ = true ∧ m = 0) := fun h => by omega
    have hHN : ∀ (hm : ¬ (takeB [123] σ = true ∧ m = 0)), (wantR c.e [123] σ).ok → (d + 1) + (m - 1) = 64 ∧ (wantR c.e [123] σ).r.length ≤ n := fun hm h => by
     by_cases ht : takeB [123] σ = true
     ·
      have h1 := hn (takeB_pos ht).1
      unfold wantR; rw [if_pos ht]
      have h2 : ¬ m = 0 := fun h0 => hm ⟨ht, h0⟩
      refine ⟨by omega, ?_⟩
      simp only [List.length_tail]; omega
     ·
      unfold wantR at h; rw [if_neg ht] at h; exact absurd h (failR_not (by decide))
    refine vc_code_skip (vq_then (vc_keep [(0, _), (1, _)] ⟨rfl, rfl, trivial⟩ (vc_seq (vc_region ?_))))
    refine vc_y rfl rfl (y_mv rfl) ?_
    refine vc_e (e_call [_, _] rfl rfl Tryz.call52 rfl (rwant_any c [123] σ hr _ (hC.k1 st.chg) (by exact st.res (i := 0) rfl)) ?_)
    rintro _ w ⟨rfl, hP1, cw⟩
    replace st := St.prs (b := c.rb) st 0 rfl cw (.inl (.head _)) hP1
    dsimp only [setNth] at st
    refine vc_end (vq_then (vc_keep [(0, _), (1, _)] ⟨rfl, rfl, trivial⟩ (vc_seq (vc_region ?_))))
    iterate 2 refine vc_y rfl rfl (y_mv rfl) ?_
    refine vc_y rfl rfl (y_add rfl rfl (by omega : _ = ((d + 1 : Nat) : Int)) (by omega) (by omega)) ?_
    refine vc_e (e_call [_, _] rfl rfl Tryz.call53 rfl (hS (m - 1) (d + 1) (by omega) (wantR c.e [123] σ) (wantR_suf.trans (by first | exact hr | (rw [failR_r]; exact hr))) (hHN hm) _ (hC.k1 st.chg) (by exact st.res (i := 0) rfl)) ?_)
    rintro _ w ⟨l, σ2, hD, hsf, hP1, cw, ob, cb, Sb, rfl, hQ, hN⟩
    have hNSb := hN.le st.chg.size
    replace st := St.prsT (b := c.rb) st 0 rfl cw (.inl (.head _)) hP1 (holds_sm hQ) hN.2
    dsimp only [setNth] at st
    refine vc_y rfl rfl (y_as rfl) ?_
    refine vc_end (vq_then (vc_keep [(4, _)] ⟨rfl, trivial⟩ (vc_ret ?_)))
    refine vq_ret1 st (.inl rfl) Tryz.results81 (.tmp rfl) ?_
    refine ⟨_, rfl, ?_⟩
    exact ⟨l, σ2, block_done hm (hD.congr (fun r => rfl)), hsf.trans wantR_suf, (by exact st.res (i := 1) rfl), st.chg, ob, cb, Sb, rfl, (by exact (st.res (i := 0) rfl).1), hNSb⟩
  ·
   intro hg11
   try simp only [dn] at hg11
   have hm : ¬ (takeB [123] σ = true ∧ m = 0) := by rw [takeB_ok ho]; simp_all
   have hHN : ∀ (hm : ¬ (takeB [123] σ = true ∧ m = 0)), (wantR c.e [123] σ).ok → (d + 1) + (m - 1) = 64 ∧ (wantR c.e [123] σ).r.length ≤ n := fun hm h => by
    by_cases ht : takeB [123] σ = true
    ·
     have h1 := hn (takeB_pos ht).1
     unfold wantR; rw [if_pos ht]
     have h2 : ¬ m = 0 := fun h0 => hm ⟨ht, h0⟩
     refine ⟨by omega, ?_⟩
     simp only [List.length_tail]; omega
    ·
     unfold wantR at h; rw [if_neg ht] at h; exact absurd h (failR_not (by decide))
   iterate 2 refine vc_e (e_skip rfl rfl ?_)
   refine vc_y rfl rfl (y_pickf rfl rfl) ?_
   refine vc_end (vq_then (vc_keep [(0, _), (1, _), (14, _)] ⟨rfl, rfl, rfl, trivial⟩ ?_))
   refine vc_iff rfl ?_
   refine vc_code_skip (vq_then (vc_keep [(0, _), (1, _)] ⟨rfl, rfl, trivial⟩ (vc_seq (vc_region ?_))))
   refine vc_y rfl rfl (y_mv rfl) ?_
   refine vc_e (e_call [_, _] rfl rfl Tryz.call52 rfl (rwant_any c [123] σ hr _ (hC.k1 st.chg) (by exact st.res (i := 0) rfl)) ?_)
   rintro _ w ⟨rfl, hP1, cw⟩
   replace st := St.prs (b := c.rb) st 0 rfl cw (.inl (.head _)) hP1
   dsimp only [setNth] at st
   refine vc_end (vq_then (vc_keep [(0, _), (1, _)] ⟨rfl, rfl, trivial⟩ (vc_seq (vc_region ?_))))
   iterate 2 refine vc_y rfl rfl (y_mv rfl) ?_
   refine vc_y rfl rfl (y_add rfl rfl (by omega : _ = ((d + 1 : Nat) : Int)) (by omega) (by omega)) ?_
   refine vc_e (e_call [_, _] rfl rfl Tryz.call53 rfl (hS (m - 1) (d + 1) (by omega) (wantR c.e [123] σ) (wantR_suf.trans (by first | exact hr | (rw [failR_r]; exact hr))) (hHN hm) _ (hC.k1 st.chg) (by exact st.res (i := 0) rfl)) ?_)
   rintro _ w ⟨l, σ2, hD, hsf, hP1, cw, ob, cb, Sb, rfl, hQ, hN⟩
   have hNSb := hN.le st.chg.size
   replace st := St.prsT (b := c.rb) st 0 rfl cw (.inl (.head _)) hP1 (holds_sm hQ) hN.2
   dsimp only [setNth] at st
   refine vc_y rfl rfl (y_as rfl) ?_
   refine vc_end (vq_then (vc_keep [(4, _)] ⟨rfl, trivial⟩ (vc_ret ?_)))
   refine vq_ret1 st (.inl rfl) Tryz.results81 (.tmp rfl) ?_
   refine ⟨_, rfl, ?_⟩
   exact ⟨l, σ2, block_done hm (hD.congr (fun r => rfl)), hsf.trans wantR_suf, (by exact st.res (i := 1) rfl), st.chg, ob, cb, Sb, rfl, (by exact (st.res (i := 0) rfl).1), hNSb⟩
 ·
  intro hg7
  try simp only [dn] at hg7
  have ho : ¬ σ.ok := by simpa using hg7
  have hm : ¬ (takeB [123] σ = true ∧ m = 0) := by rw [takeB_bad ho]; simp
  have hHN : ∀ (hm : ¬ (takeB [123] σ = true ∧ m = 0)), (wantR c.e [123] σ).ok → (d + 1) + (m - 1) = 64 ∧ (wantR c.e [123] σ).r.length ≤ n := fun hm h => by
   by_cases ht : takeB [123] σ = true
   ·
    have h1 := hn (takeB_pos ht).1
    unfold wantR; rw [if_pos ht]
    have h2 : ¬ m = 0 := fun h0 => hm ⟨ht, h0⟩
    refine ⟨by omega, ?_⟩
    simp only [List.length_tail]; omega
   ·
    unfold wantR at h; rw [if_neg ht] at h; exact absurd h (failR_not (by decide))
  iterate 2 refine vc_e (e_skip rfl rfl ?_)
  refine vc_y rfl rfl (y_pickf rfl rfl) ?_
  refine vc_y rfl rfl (y_mv rfl) ?_
  iterate 2 refine vc_e (e_skip rfl rfl ?_)
  refine vc_y rfl rfl (y_pickf rfl rfl) ?_
  refine vc_end (vq_then (vc_keep [(0, _), (1, _), (14, _)] ⟨rfl, rfl, rfl, trivial⟩ ?_))
  refine vc_iff rfl ?_
  refine vc_code_skip (vq_then (vc_keep [(0, _), (1, _)] ⟨rfl, rfl, trivial⟩ (vc_seq (vc_region ?_))))
  refine vc_y rfl rfl (y_mv rfl) ?_
  refine vc_e (e_call [_, _] rfl rfl Tryz.call52 rfl (rwant_any c [123] σ hr _ (hC.k1 st.chg) (by exact st.res (i := 0) rfl)) ?_)
  rintro _ w ⟨rfl, hP1, cw⟩
  replace st := St.prs (b := c.rb) st 0 rfl cw (.inl (.head _)) hP1
  dsimp only [setNth] at st
  refine vc_end (vq_then (vc_keep [(0, _), (1, _)] ⟨rfl, rfl, trivial⟩ (vc_seq (vc_region ?_))))
  iterate 2 refine vc_y rfl rfl (y_mv rfl) ?_
  refine vc_y rfl rfl (y_add rfl rfl (by omega : _ = ((d + 1 : Nat) : Int)) (by omega) (by omega)) ?_
  refine vc_e (e_call [_, _] rfl rfl Tryz.call53 rfl (hS (m - 1) (d + 1) (by omega) (wantR c.e [123] σ) (wantR_suf.trans (by first | exact hr | (rw [failR_r]; exact hr))) (hHN hm) _ (hC.k1 st.chg) (by exact st.res (i := 0) rfl)) ?_)
  rintro _ w ⟨l, σ2, hD, hsf, hP1, cw, ob, cb, Sb, rfl, hQ, hN⟩
  have hNSb := hN.le st.chg.size
  replace st := St.prsT (b := c.rb) st 0 rfl cw (.inl (.head _)) hP1 (holds_sm hQ) hN.2
  dsimp only [setNth] at st
  refine vc_y rfl rfl (y_as rfl) ?_
  refine vc_end (vq_then (vc_keep [(4, _)] ⟨rfl, trivial⟩ (vc_ret ?_)))
  refine vq_ret1 st (.inl rfl) Tryz.results81 (.tmp rfl) ?_
  refine ⟨_, rfl, ?_⟩
  exact ⟨l, σ2, block_done hm (hD.congr (fun r => rfl)), hsf.trans wantR_suf, (by exact st.res (i := 1) rfl), st.chg, ob, cb, Sb, rfl, (by exact (st.res (i := 0) rfl).1), hNSb⟩

end Go.Proofs.YtggnfanphcaamaaGreatDoor


namespace Go.Proofs.YtggnfanphcaamaaGreatDoor
open Go.RowKit Sx LexS ParS
set_option linter.unusedVariables false
set_option linter.unusedSimpArgs false

set_option maxHeartbeats 1000000 in
theorem rassign_any (a : Nat) (c : RCtx) (σ : RS) (hr : σ.r <:+ c.ts) (w : World) (hC : RCok c w) (hP : RAt c σ w) : Ret Tryz.prog 83 [.pointer (some ⟨c.rb, 0, none⟩), .agg (sm00 (a : Int)).toArray] w (RRes c σ (assignP c.e a) w (HS w)) := by
 refine ret_of [_, _] Tryz.func83 rfl Tryz.ntmps83 rfl ?_
  
 obtain ⟨w0, rfl⟩ : ∃ w0, w0 = w := ⟨_, rfl⟩
 have hP' := hP
 dsimp only [RAt, rcell] at hP
 have st := St.of1 [c.rb] hP
 have h20 := hC.len
 have hl := suf_len hr
 have hrσ := hr
 refine vc_seq (vc_region ?_)
 refine vc_e (e_bx (l := [_, _, _, _, _, _, _]) st rfl rfl rfl rfl ?_)
 intro b3 w hb3 st
 refine vc_e (e_al (l := [_, _, _, _, _, _, _]) st rfl rfl Tryz.zeroValue56 rfl ?_)
 intro b4 w hb4 st
 refine vc_end (vq_then (vc_keep [(0, _), (3, _), (4, _)] ⟨rfl, rfl, rfl, trivial⟩ (vc_seq (vc_region ?_))))
 refine vc_y rfl rfl (y_mv rfl) ?_
 refine vc_e (e_call [_] rfl rfl Tryz.call49 rfl (rname_any c σ hrσ _ (hC.k1 st.chg) (by exact st.res (i := 2) rfl)) ?_)
 rintro _ w ⟨rfl, hP1, cw⟩
 replace st := St.prs (b := c.rb) st 2 rfl cw (.inl (.head _)) hP1
 dsimp only [setNth] at st
 obtain ⟨σ1, hσ1⟩ : ∃ x, nameR c.e σ = x := ⟨_, rfl⟩
 rw [hσ1] at st
 have hsfσ1 : σ1.r <:+ σ.r := by rw [← hσ1]; exact nameR_suf
 have hrσ1 := hsfσ1.trans hrσ
 have hlσ1 := suf_len hsfσ1
 refine vc_y rfl rfl (y_mv rfl) ?_
 iterate 2 refine vc_y rfl rfl (y_ext rfl rfl) ?_
 iterate 2 refine vc_y rfl rfl (y_as rfl) ?_
 refine vc_end (vq_then (vc_keep [(0, _), (3, _), (4, _), (5, _)] ⟨rfl, rfl, rfl, rfl, trivial⟩ (vc_seq (vc_region ?_))))
 refine vc_y rfl rfl (y_mv rfl) ?_
 refine vc_y rfl rfl ((by exact y_faz (k := 1) rfl Tryz.underlying56 rfl rfl Tryz.sizeOf9 rfl)) ?_
 refine vc_e (e_st st 1 rfl rfl rfl rfl Tryz.sizeOf9 rfl rfl (by first | (right; assumption) | (left; simp)) ?_)
 intro w st; dsimp only [setNth, wr] at st
 refine vc_end (vq_then (vc_keep [(0, _), (3, _), (4, _)] ⟨rfl, rfl, rfl, trivial⟩ (vc_seq (vc_region ?_))))
 refine vc_y rfl rfl (y_mv rfl) ?_
 refine vc_e (e_call [_, _] rfl rfl Tryz.call52 rfl (rwant_any c [61] σ1 hrσ1 _ (hC.k1 st.chg) (by exact st.res (i := 2) rfl)) ?_)
 rintro _ w ⟨rfl, hP1, cw⟩
 replace st := St.prs (b := c.rb) st 2 rfl cw (.inl (.head _)) hP1
 dsimp only [setNth] at st
 obtain ⟨σ2, hσ2⟩ : ∃ x, wantR c.e [61] σ1 = x := ⟨_, rfl⟩
 rw [hσ2] at st
 have hsfσ2 : σ2.r <:+ σ1.r := by rw [← hσ2]; exact wantR_suf
 have hrσ2 := hsfσ2.trans hrσ1
 refine vc_end (vq_then (vc_keep [(0, _), (3, _), (4, _)] ⟨rfl, rfl, rfl, trivial⟩ (vc_seq (vc_seq (vc_region ?_)))))
 refine vc_y rfl rfl (y_mv rfl) ?_
 refine vc_e (e_call [_, _] rfl rfl Tryz.call31 rfl (rtake_any c wSwap σ2 hrσ2 _ (hC.k1 st.chg) (by exact st.res (i := 2) rfl)) ?_)
 rintro _ w ⟨rfl, hP1, cw⟩
 replace st := St.prs (b := c.rb) st 2 rfl cw (.inl (.head _)) hP1
 dsimp only [setNth] at st
 refine vc_end (vq_then (vc_keep [(0, _), (3, _), (4, _), (19, _)] ⟨rfl, rfl, rfl, rfl, trivial⟩ ?_))
 refine vc_ifs rfl ?_ ?_
 ·
  intro hc19
  try simp only [dn] at hc19
  have hT : takeB wSwap σ2 = true := hc19
  rw [takeR_pos hT] at st
  obtain ⟨σ3, hσ3⟩ : ∃ x, (RS.mk σ2.r.tail σ2.f) = x := ⟨_, rfl⟩
  rw [hσ3] at st
  have hsfσ3 : σ3.r <:+ σ2.r := by rw [← hσ3]; exact List.tail_suffix _
  have hrσ3 := hsfσ3.trans hrσ2
  refine vc_seq (vc_region ?_)
  refine vc_y rfl rfl (y_fa0 rfl Tryz.underlying56 rfl rfl Tryz.sizeOf53 rfl) ?_
  refine vc_e (e_st st 1 rfl rfl rfl rfl Tryz.sizeOf53 rfl rfl (by first | (right; assumption) | (left; simp)) ?_)
  intro w st; dsimp only [setNth, wr] at st
  refine vc_end (vq_then (vc_keep [(0, _), (3, _), (4, _)] ⟨rfl, rfl, rfl, trivial⟩ (vc_seq (vc_region ?_))))
  refine vc_y rfl rfl (y_mv rfl) ?_
  refine vc_e (e_call [_, _] rfl rfl Tryz.call52 rfl (rwant_any c [40] σ3 hrσ3 _ (hC.k1 st.chg) (by exact st.res (i := 2) rfl)) ?_)
  rintro _ w ⟨rfl, hP1, cw⟩
  replace st := St.prs (b := c.rb) st 2 rfl cw (.inl (.head _)) hP1
  dsimp only [setNth] at st
  obtain ⟨σ4, hσ4⟩ : ∃ x, wantR c.e [40] σ3 = x := ⟨_, rfl⟩
  rw [hσ4] at st
  have hsfσ4 : σ4.r <:+ σ3.r := by rw [← hσ4]; exact wantR_suf
  have hrσ4 := hsfσ4.trans hrσ3
  refine vc_end (vq_then (vc_keep [(0, _), (3, _), (4, _)] ⟨rfl, rfl, rfl, trivial⟩ (vc_seq (vc_region ?_))))
  refine vc_y rfl rfl (y_mv rfl) ?_
  refine vc_e (e_call [_] rfl rfl Tryz.call49 rfl (rname_any c σ4 hrσ4 _ (hC.k1 st.chg) (by exact st.res (i := 2) rfl)) ?_)
  rintro _ w ⟨rfl, hP1, cw⟩
  replace st := St.prs (b := c.rb) st 2 rfl cw (.inl (.head _)) hP1
  dsimp only [setNth] at st
  obtain ⟨σ5, hσ5⟩ : ∃ x, nameR c.e σ4 = x := ⟨_, rfl⟩
  rw [hσ5] at st
  have hsfσ5 : σ5.r <:+ σ4.r := by rw [← hσ5]; exact nameR_suf
  have hrσ5 := hsfσ5.trans hrσ4
  have hlσ5 := suf_len hsfσ5
  refine vc_y rfl rfl (y_mv rfl) ?_
  iterate 2 refine vc_y rfl rfl (y_ext rfl rfl) ?_
  iterate 2 refine vc_y rfl rfl (y_as rfl) ?_
  refine vc_end (vq_then (vc_keep [(0, _), (3, _), (4, _), (7, _)] ⟨rfl, rfl, rfl, rfl, trivial⟩ (vc_seq (vc_region ?_))))
  refine vc_y rfl rfl (y_mv rfl) ?_
  refine vc_y rfl rfl ((by exact y_faz (k := 2) rfl Tryz.underlying56 rfl rfl Tryz.sizeOf9 rfl)) ?_
  refine vc_e (e_st st 1 rfl rfl rfl rfl Tryz.sizeOf9 rfl rfl (by first | (right; assumption) | (left; simp)) ?_)
  intro w st; dsimp only [setNth, wr] at st
  refine vc_end (vq_then (vc_keep [(0, _), (3, _), (4, _)] ⟨rfl, rfl, rfl, trivial⟩ (vc_seq (vc_region ?_))))
  refine vc_y rfl rfl (y_mv rfl) ?_
  refine vc_e (e_call [_, _] rfl rfl Tryz.call52 rfl (rwant_any c [44] σ5 hrσ5 _ (hC.k1 st.chg) (by exact st.res (i := 2) rfl)) ?_)
  rintro _ w ⟨rfl, hP1, cw⟩
  replace st := St.prs (b := c.rb) st 2 rfl cw (.inl (.head _)) hP1
  dsimp only [setNth] at st
  obtain ⟨σ6, hσ6⟩ : ∃ x, wantR c.e [44] σ5 = x := ⟨_, rfl⟩
  rw [hσ6] at st
  have hsfσ6 : σ6.r <:+ σ5.r := by rw [← hσ6]; exact wantR_suf
  have hrσ6 := hsfσ6.trans hrσ5
  refine vc_end (vq_then (vc_keep [(0, _), (3, _), (4, _)] ⟨rfl, rfl, rfl, trivial⟩ (vc_seq (vc_region ?_))))
  refine vc_y rfl rfl (y_mv rfl) ?_
  refine vc_e (e_call [_, _, _] rfl rfl Tryz.call82 rfl (rexpr_any c σ6 hrσ6 _ (hC.k1 st.chg) (by exact st.res (i := 2) rfl)) ?_)
  rintro _ w ⟨x, σ7, hDσ7, hsfσ7, hP1, cw, ox, cx, Sx, rfl, hQ, hN⟩
  have hNSx := hN.le st.chg.size
  replace st := St.prsT (b := c.rb) st 2 rfl cw (.inl (.head _)) hP1 (holds_ex hQ) hN.2
  dsimp only [setNth] at st
  have hrσ7 := hsfσ7.trans hrσ6
  refine vc_e (e_bs1 (l := [_, _, _, _, _, _]) st rfl rfl rfl rfl Tryz.underlying54 Tryz.sizeOf60 rfl rfl rfl Tryz.zeroValue60 ?_)
  intro b34 w hb34 st
  refine vc_y rfl rfl ((by exact y_faz (k := 3) rfl Tryz.underlying56 rfl rfl Tryz.sizeOf54 rfl)) ?_
  refine vc_e (e_st st 3 rfl rfl rfl rfl Tryz.sizeOf54 rfl rfl (by first | (right; assumption) | (left; simp)) ?_)
  intro w st; dsimp only [setNth, wr] at st
  refine vc_end (vq_then (vc_keep [(0, _), (3, _), (4, _)] ⟨rfl, rfl, rfl, trivial⟩ (vc_region ?_)))
  refine vc_y rfl rfl (y_mv rfl) ?_
  refine vc_e (e_call [_, _] rfl rfl Tryz.call52 rfl (rwant_any c [41] σ7 hrσ7 _ (hC.k1 st.chg) (by exact st.res (i := 4) rfl)) ?_)
  rintro _ w ⟨rfl, hP1, cw⟩
  replace st := St.prs (b := c.rb) st 4 rfl cw (.inl (.head _)) hP1
  dsimp only [setNth] at st
  obtain ⟨σ8, hσ8⟩ : ∃ x, wantR c.e [41] σ7 = x := ⟨_, rfl⟩
  rw [hσ8] at st
  have hsfσ8 : σ8.r <:+ σ7.r := by rw [← hσ8]; exact wantR_suf
  have hrσ8 := hsfσ8.trans hrσ7
  refine vc_end (vq_then (vc_keep [(0, _), (3, _), (4, _)] ⟨rfl, rfl, rfl, trivial⟩ (vc_seq (vc_region ?_))))
  refine vc_y rfl rfl (y_mv rfl) ?_
  refine vc_e (e_call [_, _] rfl rfl Tryz.call52 rfl (rwant_any c [59] σ8 hrσ8 _ (hC.k1 st.chg) (by exact st.res (i := 4) rfl)) ?_)
  rintro _ w ⟨rfl, hP1, cw⟩
  replace st := St.prs (b := c.rb) st 4 rfl cw (.inl (.head _)) hP1
  dsimp only [setNth] at st
  obtain ⟨σ9, hσ9⟩ : ∃ x, wantR c.e [59] σ8 = x := ⟨_, rfl⟩
  rw [hσ9] at st
  have hsfσ9 : σ9.r <:+ σ8.r := by rw [← hσ9]; exact wantR_suf
  have hrσ9 := hsfσ9.trans hrσ8
  refine vc_end (vq_then (vc_keep [(3, _), (4, _)] ⟨rfl, rfl, trivial⟩ (vc_seq (vc_region ?_))))
  refine vc_y rfl rfl ((by exact y_lda (vs := [_, _, _, _, _, _, _]) st 3 rfl Tryz.isAgg56 Tryz.sizeOf56 rfl rfl)) ?_
  refine vc_e (e_sts (vs := [_, _, _, _, _, _, _]) st 2 rfl rfl rfl rfl rfl Tryz.sizeOf56 rfl rfl (by first | (right; assumption) | (left; simp)) ?_)
  intro w st; dsimp only [setNth, wr] at st
  refine vc_end (vq_then (vc_keep [(4, _)] ⟨rfl, trivial⟩ (vc_ret ?_)))
  refine vq_ret1 st (.inl rfl) Tryz.results83 (by exact .cell 2 rfl rfl Tryz.isAgg56 Tryz.sizeOf56) ?_
  refine ⟨_, rfl, ?_⟩
  have hdone : Done (run (assignP c.e a) σ) (.mk 2 (nameT σ) (nameT σ4) [x] [] [] (a : Int)) σ9 := by
   rw [← hσ9, ← hσ8]
   exact assign_swap (by rw [hσ1, hσ2]; exact hT) (by rw [hσ1, hσ2, hσ3]; exact hσ4.symm) (by rw [hσ5, hσ6]; exact hDσ7)
  refine ⟨_, σ9, hdone, hsfσ9.trans (hsfσ8.trans (hsfσ7.trans (hsfσ6.trans (hsfσ5.trans (hsfσ4.trans (hsfσ3.trans (hsfσ2.trans hsfσ1))))))), (by exact st.res (i := 4) rfl), st.chg, some ⟨b34, 0, none⟩, none, none, 1, 0, 0, b34 :: Sx, rfl, SmS_iff.2 ⟨some ⟨b34, 0, none⟩, 1, none, 0, none, 0, b34 :: Sx, [], [], rfl, (by exact ex_one (st.res (i := 0) rfl) (st.res (i := 1) rfl).1), smr_nil, smr_nil, by simp⟩, Nw.app (S := [b34]) ⟨by simp, by simpa using hb34⟩ hNSx (fun b hb hb' => by exact st.ne (i := 0) (j := 1) (by decide) rfl rfl b hb hb')⟩
 ·
  intro hc19
  try simp only [dn] at hc19
  have hF : takeB wSwap σ2 = false := hc19
  rw [takeR_neg hF] at st
  refine vc_seq (vc_region ?_)
  refine vc_y rfl rfl (y_fa0 rfl Tryz.underlying56 rfl rfl Tryz.sizeOf53 rfl) ?_
  refine vc_e (e_st st 1 rfl rfl rfl rfl Tryz.sizeOf53 rfl rfl (by first | (right; assumption) | (left; simp)) ?_)
  intro w st; dsimp only [setNth, wr] at st
  refine vc_end (vq_then (vc_keep [(0, _), (3, _), (4, _)] ⟨rfl, rfl, rfl, trivial⟩ (vc_region ?_)))
  refine vc_y rfl rfl (y_mv rfl) ?_
  refine vc_e (e_call [_, _, _] rfl rfl Tryz.call82 rfl (rexpr_any c σ2 hrσ2 _ (hC.k1 st.chg) (by exact st.res (i := 2) rfl)) ?_)
  rintro _ w ⟨x, σ7, hDσ7, hsfσ7, hP1, cw, ox, cx, Sx, rfl, hQ, hN⟩
  have hNSx := hN.le st.chg.size
  replace st := St.prsT (b := c.rb) st 2 rfl cw (.inl (.head _)) hP1 (holds_ex hQ) hN.2
  dsimp only [setNth] at st
  have hrσ7 := hsfσ7.trans hrσ2
  refine vc_e (e_bs1 (l := [_, _, _, _, _, _]) st rfl rfl rfl rfl Tryz.underlying54 Tryz.sizeOf60 rfl rfl rfl Tryz.zeroValue60 ?_)
  intro b41 w hb41 st
  refine vc_y rfl rfl ((by exact y_faz (k := 3) rfl Tryz.underlying56 rfl rfl Tryz.sizeOf54 rfl)) ?_
  refine vc_e (e_st st 3 rfl rfl rfl rfl Tryz.sizeOf54 rfl rfl (by first | (right; assumption) | (left; simp)) ?_)
  intro w st; dsimp only [setNth, wr] at st
  refine vc_end (vq_then (vc_keep [(0, _), (3, _), (4, _)] ⟨rfl, rfl, rfl, trivial⟩ (vc_seq (vc_region ?_))))
  refine vc_y rfl rfl (y_mv rfl) ?_
  refine vc_e (e_call [_, _] rfl rfl Tryz.call52 rfl (rwant_any c [59] σ7 hrσ7 _ (hC.k1 st.chg) (by exact st.res (i := 4) rfl)) ?_)
  rintro _ w ⟨rfl, hP1, cw⟩
  replace st := St.prs (b := c.rb) st 4 rfl cw (.inl (.head _)) hP1
  dsimp only [setNth] at st
  obtain ⟨σ9, hσ9⟩ : ∃ x, wantR c.e [59] σ7 = x := ⟨_, rfl⟩
  rw [hσ9] at st
  have hsfσ9 : σ9.r <:+ σ7.r := by rw [← hσ9]; exact wantR_suf
  have hrσ9 := hsfσ9.trans hrσ7
  refine vc_end (vq_then (vc_keep [(3, _), (4, _)] ⟨rfl, rfl, trivial⟩ (vc_seq (vc_region ?_))))
  refine vc_y rfl rfl ((by exact y_lda (vs := [_, _, _, _, _, _, _]) st 3 rfl Tryz.isAgg56 Tryz.sizeOf56 rfl rfl)) ?_
  refine vc_e (e_sts (vs := [_, _, _, _, _, _, _]) st 2 rfl rfl rfl rfl rfl Tryz.sizeOf56 rfl rfl (by first | (right; assumption) | (left; simp)) ?_)
  intro w st; dsimp only [setNth, wr] at st
  refine vc_end (vq_then (vc_keep [(4, _)] ⟨rfl, trivial⟩ (vc_ret ?_)))
  refine vq_ret1 st (.inl rfl) Tryz.results83 (by exact .cell 2 rfl rfl Tryz.isAgg56 Tryz.sizeOf56) ?_
  refine ⟨_, rfl, ?_⟩
  have hdone : Done (run (assignP c.e a) σ) (.mk 1 (nameT σ) [] [x] [] [] (a : Int)) σ9 := by
   rw [← hσ9]
   exact assign_plain (by rw [hσ1, hσ2]; exact hF) (by rw [hσ1, hσ2]; exact hDσ7)
  refine ⟨_, σ9, hdone, hsfσ9.trans (hsfσ7.trans (hsfσ2.trans hsfσ1)), (by exact st.res (i := 4) rfl), st.chg, some ⟨b41, 0, none⟩, none, none, 1, 0, 0, b41 :: Sx, rfl, SmS_iff.2 ⟨some ⟨b41, 0, none⟩, 1, none, 0, none, 0, b41 :: Sx, [], [], rfl, (by exact ex_one (st.res (i := 0) rfl) (st.res (i := 1) rfl).1), smr_nil, smr_nil, by simp⟩, Nw.app (S := [b41]) ⟨by simp, by simpa using hb41⟩ hNSx (fun b hb hb' => by exact st.ne (i := 0) (j := 1) (by decide) rfl rfl b hb hb')⟩

set_option maxHeartbeats 2000000 in
theorem rstmt_of (c : RCtx) (n : Nat) (hB : ∀ k, k < n → BKR c k) : SMR c n := by
 intro m d hd σ hr ho hn w hC hP
 refine ret_of [_, _] Tryz.func64 rfl Tryz.ntmps64 rfl ?_
  
 obtain ⟨w0, rfl⟩ : ∃ w0, w0 = w := ⟨_, rfl⟩
 have hP' := hP
 dsimp only [RAt, rcell] at hP
 have st := St.of1 [c.rb] hP
 have h20 := hC.len
 have hl := suf_len hr
 have hk4 : (here σ.r).kind = 4 → isSign (here σ.r).text = true := fun hk => by
  have hne := kind_ne hk (by decide)
  obtain ⟨x, l, hxl⟩ : ∃ x l, σ.r = x :: l := by
   cases hq : σ.r with
   | nil => exact absurd hq hne
   | cons x l => exact ⟨x, l, rfl⟩
  rw [hxl] at hk ⊢
  exact hC.sg x (hr.subset (by rw [hxl]; exact .head _)) hk
 refine vc_seq (vc_region ?_)
 refine vc_e (e_al (l := [_, _, _, _, _, _, _]) st rfl rfl Tryz.zeroValue56 rfl ?_)
 intro b4 w hb4 st
 refine vc_end (vq_then (vc_keep [(0, _), (1, _), (4, _)] ⟨rfl, rfl, rfl, trivial⟩ (vc_seq (vc_region ?_))))
 refine vc_y rfl rfl (y_mv rfl) ?_
 refine vc_e (e_call [_] rfl rfl Tryz.call50 rfl (rhere_any c σ hr _ (hC.k1 st.chg) (by exact st.res (i := 1) rfl)) ?_)
 rintro _ w ⟨rfl, cw⟩
 replace st := st.call0 cw
 refine vc_y rfl rfl (y_fld rfl Tryz.underlying82 rfl rfl Tryz.isAgg3 rfl) ?_
 refine vc_y rfl rfl (y_bld (.agg #[_, _, _, _, _, _, _]) [(6, _)] rfl (fun w => by simp [Instr.build, go_sem] <;> repeat' constructor)) ?_
 refine vc_e (e_al (l := [_, _, _, _, _, _, _]) st rfl rfl Tryz.zeroValue56 rfl ?_)
 intro b5 w hb5 st
 refine vc_e (e_sts (vs := [_, _, _, _, _, _, _]) st 0 rfl rfl rfl rfl rfl Tryz.sizeOf56 rfl rfl (by first | (right; assumption) | (left; simp)) ?_)
 intro w st; dsimp only [setNth, wr] at st
 refine vc_end (vq_then (vc_keep [(0, _), (1, _), (4, _), (5, _)] ⟨rfl, rfl, rfl, rfl, trivial⟩ (vc_seq (vc_block (vc_seq (vc_region ?_))))))
 refine vc_y rfl rfl (y_mv rfl) ?_
 refine vc_e (e_call [_, _] rfl rfl Tryz.call31 rfl (rtake_any c wIf σ hr _ (hC.k1 st.chg) (by exact st.res (i := 2) rfl)) ?_)
 rintro _ w ⟨rfl, hP1, cw⟩
 replace st := St.prs (b := c.rb) st 2 rfl cw (.inl (.head _)) hP1
 dsimp only [setNth] at st
 refine vc_y rfl rfl (y_as rfl) ?_
 refine vc_end (vq_then (vc_keep [(0, _), (1, _), (4, _), (5, _), (15, _)] ⟨rfl, rfl, rfl, rfl, rfl, trivial⟩ ?_))
 refine vc_ifs rfl ?_ ?_
 ·
  intro hc15
  try simp only [dn] at hc15
  have hT1 : takeB wIf σ = true := hc15
  have htl := tail_lt (isT_ne (takeB_pos hT1).2)
  rw [takeR_pos hT1] at st
  obtain ⟨σ1, hσ1⟩ : ∃ x, (RS.mk σ.r.tail σ.f) = x := ⟨_, rfl⟩
  rw [hσ1] at st
  have hsfσ1 : σ1.r <:+ σ.r := by rw [← hσ1]; exact List.tail_suffix _
  have hrσ1 := hsfσ1.trans hr
  have hl1 : σ1.r.length < σ.r.length := by rw [← hσ1]; exact htl
  refine vc_seq (vc_region ?_)
  refine vc_y rfl rfl (y_fa0 rfl Tryz.underlying56 rfl rfl Tryz.sizeOf53 rfl) ?_
  refine vc_e (e_st st 0 rfl rfl rfl rfl Tryz.sizeOf53 rfl rfl (by first | (right; assumption) | (left; simp)) ?_)
  intro w st; dsimp only [setNth, wr] at st
  refine vc_end (vq_then (vc_keep [(0, _), (1, _), (4, _), (5, _)] ⟨rfl, rfl, rfl, rfl, trivial⟩ (vc_seq (vc_region ?_))))
  refine vc_y rfl rfl (y_mv rfl) ?_
  refine vc_e (e_call [_] rfl rfl Tryz.call80 rfl (rround_any c σ1 hrσ1 _ (hC.k1 st.chg) (by exact st.res (i := 2) rfl)) ?_)
  rintro _ w ⟨x, σ2, hDσ2, hsfσ2, hP1, cw, ox, cx, Sx, rfl, hQ, hN⟩
  have hNSx := hN.le st.chg.size
  replace st := St.prsT (b := c.rb) st 2 rfl cw (.inl (.head _)) hP1 (holds_ex hQ) hN.2
  dsimp only [setNth] at st
  have hrσ2 := hsfσ2.trans hrσ1
  have hlσ2 := suf_len hsfσ2
  refine vc_y rfl rfl ((by exact y_faz (k := 3) rfl Tryz.underlying56 rfl rfl Tryz.sizeOf54 rfl)) ?_
  refine vc_e (e_st st 1 rfl rfl rfl rfl Tryz.sizeOf54 rfl rfl (by first | (right; assumption) | (left; simp)) ?_)
  intro w st; dsimp only [setNth, wr] at st
  refine vc_end (vq_then (vc_keep [(0, _), (1, _), (4, _), (5, _)] ⟨rfl, rfl, rfl, rfl, trivial⟩ (vc_seq (vc_region ?_))))
  iterate 2 refine vc_y rfl rfl (y_mv rfl) ?_
  refine vc_e (e_call [_, _] rfl rfl Tryz.call81 rfl (hB σ1.r.length (by omega) m d hd σ2 hrσ2 (fun _ => by omega) _ (hC.k1 st.chg) (by exact st.res (i := 3) rfl)) ?_)
  rintro _ w ⟨b, σ3, hDσ3, hsfσ3, hP1, cw, ob, cb, Sb, rfl, hQ, hN⟩
  have hNSb := hN.le st.chg.size
  replace st := St.prsT (b := c.rb) st 3 rfl cw (.inl (.head _)) hP1 (holds_sm hQ) hN.2
  dsimp only [setNth] at st
  have hrσ3 := hsfσ3.trans hrσ2
  have hlσ3 := suf_len hsfσ3
  refine vc_y rfl rfl ((by exact y_faz (k := 4) rfl Tryz.underlying56 rfl rfl Tryz.sizeOf48 rfl)) ?_
  refine vc_e (e_st st 2 rfl rfl rfl rfl Tryz.sizeOf48 rfl rfl (by first | (right; assumption) | (left; simp)) ?_)
  intro w st; dsimp only [setNth, wr] at st
  refine vc_end (vq_then (vc_keep [(0, _), (1, _), (4, _), (5, _)] ⟨rfl, rfl, rfl, rfl, trivial⟩ (vc_seq (vc_region ?_))))
  refine vc_y rfl rfl (y_mv rfl) ?_
  refine vc_e (e_call [_, _] rfl rfl Tryz.call31 rfl (rtake_any c wElse σ3 hrσ3 _ (hC.k1 st.chg) (by exact st.res (i := 4) rfl)) ?_)
  rintro _ w ⟨rfl, hP1, cw⟩
  replace st := St.prs (b := c.rb) st 4 rfl cw (.inl (.head _)) hP1
  dsimp only [setNth] at st
  refine vc_end (vq_then (vc_keep [(0, _), (1, _), (4, _), (5, _), (27, _)] ⟨rfl, rfl, rfl, rfl, rfl, trivial⟩ ?_))
  refine vc_ifs rfl ?_ ?_
  ·
   intro hc27
   try simp only [dn] at hc27
   have hTe : takeB wElse σ3 = true := hc27
   rw [takeR_pos hTe] at st
   obtain ⟨σ4, hσ4⟩ : ∃ x, (RS.mk σ3.r.tail σ3.f) = x := ⟨_, rfl⟩
   rw [hσ4] at st
   have hsfσ4 : σ4.r <:+ σ3.r := by rw [← hσ4]; exact List.tail_suffix _
   have hrσ4 := hsfσ4.trans hrσ3
   have hlσ4 := suf_len hsfσ4
   refine vc_region ?_
   iterate 2 refine vc_y rfl rfl (y_mv rfl) ?_
   refine vc_e (e_call [_, _] rfl rfl Tryz.call81 rfl (hB σ1.r.length (by omega) m d hd σ4 hrσ4 (fun _ => by omega) _ (hC.k1 st.chg) (by exact st.res (i := 4) rfl)) ?_)
   rintro _ w ⟨l, σ5, hDσ5, hsfσ5, hP1, cw, ol, cl, Sl, rfl, hQ, hN⟩
   have hNSl := hN.le st.chg.size
   replace st := St.prsT (b := c.rb) st 4 rfl cw (.inl (.head _)) hP1 (holds_sm hQ) hN.2
   dsimp only [setNth] at st
   have hrσ5 := hsfσ5.trans hrσ4
   have hlσ5 := suf_len hsfσ5
   refine vc_y rfl rfl ((by exact y_faz (k := 5) rfl Tryz.underlying56 rfl rfl Tryz.sizeOf48 rfl)) ?_
   refine vc_e (e_st st 3 rfl rfl rfl rfl Tryz.sizeOf48 rfl rfl (by first | (right; assumption) | (left; simp)) ?_)
   intro w st; dsimp only [setNth, wr] at st
   refine vc_end (vq_block (vq_then (vc_keep [(4, _), (5, _)] ⟨rfl, rfl, trivial⟩ (vc_seq (vc_region ?_)))))
   refine vc_y rfl rfl ((by exact y_lda (vs := [_, _, _, _, _, _, _]) st 3 rfl Tryz.isAgg56 Tryz.sizeOf56 rfl rfl)) ?_
   refine vc_e (e_sts (vs := [_, _, _, _, _, _, _]) st 4 rfl rfl rfl rfl rfl Tryz.sizeOf56 rfl rfl (by first | (right; assumption) | (left; simp)) ?_)
   intro w st; dsimp only [setNth, wr] at st
   refine vc_end (vq_then (vc_keep [(4, _)] ⟨rfl, trivial⟩ (vc_ret ?_)))
   refine vq_ret1 st (.inl rfl) Tryz.results64 (by exact .cell 4 rfl rfl Tryz.isAgg56 Tryz.sizeOf56) ?_
   refine ⟨_, rfl, ?_⟩
   have hdone := choice_else (a := atT c.e σ.r) hDσ2 hDσ3 hTe (by rw [hσ4]; exact hDσ5)
   rw [← hσ1, ← stmt_if hk4 hT1, ← stmtP_blk] at hdone
   rw [← hereE_at] at hdone
   refine ⟨_, σ5, hdone, hsfσ5.trans (hsfσ4.trans (hsfσ3.trans (hsfσ2.trans hsfσ1))), (by exact st.res (i := 5) rfl), st.chg, ox, ob, ol, cx, cb, cl, Sx ++ (Sb ++ Sl), rfl, SmS_iff.2 ⟨ox, cx, ob, cb, ol, cl, Sx, Sb, Sl, rfl, (st.res (i := 2) rfl).1, (st.res (i := 1) rfl).1, (st.res (i := 0) rfl).1, rfl⟩, hNSx.app (hNSb.app hNSl (st.ne (i := 1) (j := 0) (by decide) rfl rfl)) (fun k hk hk' => (List.mem_append.1 hk').elim ((st.ne (i := 2) (j := 1) (by decide) rfl rfl) k hk) ((st.ne (i := 2) (j := 0) (by decide) rfl rfl) k hk))⟩
  ·
   intro hc27
   try simp only [dn] at hc27
   have hFe : takeB wElse σ3 = false := hc27
   rw [takeR_neg hFe] at st
   refine vc_code_skip (vq_block (vq_then (vc_keep [(4, _), (5, _)] ⟨rfl, rfl, trivial⟩ (vc_seq (vc_region ?_)))))
   refine vc_y rfl rfl ((by exact y_lda (vs := [_, _, _, _, _, _, _]) st 2 rfl Tryz.isAgg56 Tryz.sizeOf56 rfl rfl)) ?_
   refine vc_e (e_sts (vs := [_, _, _, _, _, _, _]) st 3 rfl rfl rfl rfl rfl Tryz.sizeOf56 rfl rfl (by first | (right; assumption) | (left; simp)) ?_)
   intro w st; dsimp only [setNth, wr] at st
   refine vc_end (vq_then (vc_keep [(4, _)] ⟨rfl, trivial⟩ (vc_ret ?_)))
   refine vq_ret1 st (.inl rfl) Tryz.results64 (by exact .cell 3 rfl rfl Tryz.isAgg56 Tryz.sizeOf56) ?_
   refine ⟨_, rfl, ?_⟩
   have hdone := choice_one (a := atT c.e σ.r) hDσ2 hDσ3 hFe
   rw [← hσ1, ← stmt_if hk4 hT1, ← stmtP_blk] at hdone
   rw [← hereE_at] at hdone
   refine ⟨_, σ3, hdone, hsfσ3.trans (hsfσ2.trans hsfσ1), (by exact st.res (i := 4) rfl), st.chg, ox, ob, none, cx, cb, 0, Sx ++ (Sb ++ []), rfl, SmS_iff.2 ⟨ox, cx, ob, cb, none, 0, Sx, Sb, [], rfl, (st.res (i := 1) rfl).1, (st.res (i := 0) rfl).1, smr_nil, rfl⟩, by rw [List.append_nil]; exact hNSx.app hNSb (st.ne (i := 1) (j := 0) (by decide) rfl rfl)⟩
 ·
  intro hc15
  try simp only [dn] at hc15
  have hF1 : takeB wIf σ = false := hc15
  rw [takeR_neg hF1] at st
  refine vc_seq (vc_region ?_)
  refine vc_y rfl rfl (y_mv rfl) ?_
  refine vc_e (e_call [_, _] rfl rfl Tryz.call31 rfl (rtake_any c wWhile σ hr _ (hC.k1 st.chg) (by exact st.res (i := 2) rfl)) ?_)
  rintro _ w ⟨rfl, hP1, cw⟩
  replace st := St.prs (b := c.rb) st 2 rfl cw (.inl (.head _)) hP1
  dsimp only [setNth] at st
  refine vc_y rfl rfl (y_as rfl) ?_
  refine vc_end (vq_then (vc_keep [(0, _), (1, _), (4, _), (5, _), (32, _)] ⟨rfl, rfl, rfl, rfl, rfl, trivial⟩ ?_))
  refine vc_ifs rfl ?_ ?_
  ·
   intro hc32
   try simp only [dn] at hc32
   have hT2 : takeB wWhile σ = true := hc32
   have htl := tail_lt (isT_ne (takeB_pos hT2).2)
   rw [takeR_pos hT2] at st
   obtain ⟨σ1, hσ1⟩ : ∃ x, (RS.mk σ.r.tail σ.f) = x := ⟨_, rfl⟩
   rw [hσ1] at st
   have hsfσ1 : σ1.r <:+ σ.r := by rw [← hσ1]; exact List.tail_suffix _
   have hrσ1 := hsfσ1.trans hr
   have hl1 : σ1.r.length < σ.r.length := by rw [← hσ1]; exact htl
   refine vc_seq (vc_region ?_)
   refine vc_y rfl rfl (y_fa0 rfl Tryz.underlying56 rfl rfl Tryz.sizeOf53 rfl) ?_
   refine vc_e (e_st st 0 rfl rfl rfl rfl Tryz.sizeOf53 rfl rfl (by first | (right; assumption) | (left; simp)) ?_)
   intro w st; dsimp only [setNth, wr] at st
   refine vc_end (vq_then (vc_keep [(0, _), (1, _), (4, _), (5, _)] ⟨rfl, rfl, rfl, rfl, trivial⟩ (vc_seq (vc_region ?_))))
   refine vc_y rfl rfl (y_mv rfl) ?_
   refine vc_e (e_call [_] rfl rfl Tryz.call80 rfl (rround_any c σ1 hrσ1 _ (hC.k1 st.chg) (by exact st.res (i := 2) rfl)) ?_)
   rintro _ w ⟨x, σ2, hDσ2, hsfσ2, hP1, cw, ox, cx, Sx, rfl, hQ, hN⟩
   have hNSx := hN.le st.chg.size
   replace st := St.prsT (b := c.rb) st 2 rfl cw (.inl (.head _)) hP1 (holds_ex hQ) hN.2
   dsimp only [setNth] at st
   have hrσ2 := hsfσ2.trans hrσ1
   have hlσ2 := suf_len hsfσ2
   refine vc_y rfl rfl ((by exact y_faz (k := 3) rfl Tryz.underlying56 rfl rfl Tryz.sizeOf54 rfl)) ?_
   refine vc_e (e_st st 1 rfl rfl rfl rfl Tryz.sizeOf54 rfl rfl (by first | (right; assumption) | (left; simp)) ?_)
   intro w st; dsimp only [setNth, wr] at st
   refine vc_end (vq_then (vc_keep [(0, _), (1, _), (4, _), (5, _)] ⟨rfl, rfl, rfl, rfl, trivial⟩ (vc_region ?_)))
   iterate 2 refine vc_y rfl rfl (y_mv rfl) ?_
   refine vc_e (e_call [_, _] rfl rfl Tryz.call81 rfl (hB σ1.r.length (by omega) m d hd σ2 hrσ2 (fun _ => by omega) _ (hC.k1 st.chg) (by exact st.res (i := 3) rfl)) ?_)
   rintro _ w ⟨b, σ3, hDσ3, hsfσ3, hP1, cw, ob, cb, Sb, rfl, hQ, hN⟩
   have hNSb := hN.le st.chg.size
   replace st := St.prsT (b := c.rb) st 3 rfl cw (.inl (.head _)) hP1 (holds_sm hQ) hN.2
   dsimp only [setNth] at st
   have hrσ3 := hsfσ3.trans hrσ2
   have hlσ3 := suf_len hsfσ3
   refine vc_y rfl rfl ((by exact y_faz (k := 4) rfl Tryz.underlying56 rfl rfl Tryz.sizeOf48 rfl)) ?_
   refine vc_e (e_st st 2 rfl rfl rfl rfl Tryz.sizeOf48 rfl rfl (by first | (right; assumption) | (left; simp)) ?_)
   intro w st; dsimp only [setNth, wr] at st
   refine vc_end (vq_block (vq_then (vc_keep [(4, _), (5, _)] ⟨rfl, rfl, trivial⟩ (vc_seq (vc_region ?_)))))
   refine vc_y rfl rfl ((by exact y_lda (vs := [_, _, _, _, _, _, _]) st 2 rfl Tryz.isAgg56 Tryz.sizeOf56 rfl rfl)) ?_
   refine vc_e (e_sts (vs := [_, _, _, _, _, _, _]) st 3 rfl rfl rfl rfl rfl Tryz.sizeOf56 rfl rfl (by first | (right; assumption) | (left; simp)) ?_)
   intro w st; dsimp only [setNth, wr] at st
   refine vc_end (vq_then (vc_keep [(4, _)] ⟨rfl, trivial⟩ (vc_ret ?_)))
   refine vq_ret1 st (.inl rfl) Tryz.results64 (by exact .cell 3 rfl rfl Tryz.isAgg56 Tryz.sizeOf56) ?_
   refine ⟨_, rfl, ?_⟩
   have hdone := loop_done (a := atT c.e σ.r) hDσ2 hDσ3
   rw [← hσ1, ← stmt_while hk4 hF1 hT2, ← stmtP_blk] at hdone
   rw [← hereE_at] at hdone
   refine ⟨_, σ3, hdone, hsfσ3.trans (hsfσ2.trans hsfσ1), (by exact st.res (i := 4) rfl), st.chg, ox, ob, none, cx, cb, 0, Sx ++ (Sb ++ []), rfl, SmS_iff.2 ⟨ox, cx, ob, cb, none, 0, Sx, Sb, [], rfl, (st.res (i := 1) rfl).1, (st.res (i := 0) rfl).1, smr_nil, rfl⟩, by rw [List.append_nil]; exact hNSx.app hNSb (st.ne (i := 1) (j := 0) (by decide) rfl rfl)⟩
  ·
   intro hc32
   try simp only [dn] at hc32
   have hF2 : takeB wWhile σ = false := hc32
   rw [takeR_neg hF2] at st
   refine vc_seq (vc_region ?_)
   refine vc_y rfl rfl (y_mv rfl) ?_
   refine vc_e (e_call [_, _] rfl rfl Tryz.call31 rfl (rtake_any c wLock σ hr _ (hC.k1 st.chg) (by exact st.res (i := 2) rfl)) ?_)
   rintro _ w ⟨rfl, hP1, cw⟩
   replace st := St.prs (b := c.rb) st 2 rfl cw (.inl (.head _)) hP1
   dsimp only [setNth] at st
   refine vc_y rfl rfl (y_as rfl) ?_
   refine vc_end (vq_then (vc_keep [(0, _), (1, _), (4, _), (5, _), (43, _)] ⟨rfl, rfl, rfl, rfl, rfl, trivial⟩ ?_))
   refine vc_ifs rfl ?_ ?_
   ·
    intro hc43
    try simp only [dn] at hc43
    have hT3 : takeB wLock σ = true := hc43
    have htl := tail_lt (isT_ne (takeB_pos hT3).2)
    rw [takeR_pos hT3] at st
    obtain ⟨σ1, hσ1⟩ : ∃ x, (RS.mk σ.r.tail σ.f) = x := ⟨_, rfl⟩
    rw [hσ1] at st
    have hsfσ1 : σ1.r <:+ σ.r := by rw [← hσ1]; exact List.tail_suffix _
    have hrσ1 := hsfσ1.trans hr
    have hl1 : σ1.r.length < σ.r.length := by rw [← hσ1]; exact htl
    refine vc_seq (vc_region ?_)
    refine vc_y rfl rfl (y_fa0 rfl Tryz.underlying56 rfl rfl Tryz.sizeOf53 rfl) ?_
    refine vc_e (e_st st 0 rfl rfl rfl rfl Tryz.sizeOf53 rfl rfl (by first | (right; assumption) | (left; simp)) ?_)
    intro w st; dsimp only [setNth, wr] at st
    refine vc_end (vq_then (vc_keep [(0, _), (1, _), (4, _), (5, _)] ⟨rfl, rfl, rfl, rfl, trivial⟩ (vc_seq (vc_region ?_))))
    refine vc_y rfl rfl (y_mv rfl) ?_
    refine vc_e (e_call [_] rfl rfl Tryz.call49 rfl (rname_any c σ1 hrσ1 _ (hC.k1 st.chg) (by exact st.res (i := 2) rfl)) ?_)
    rintro _ w ⟨rfl, hP1, cw⟩
    replace st := St.prs (b := c.rb) st 2 rfl cw (.inl (.head _)) hP1
    dsimp only [setNth] at st
    obtain ⟨σ2, hσ2⟩ : ∃ x, nameR c.e σ1 = x := ⟨_, rfl⟩
    rw [hσ2] at st
    have hsfσ2 : σ2.r <:+ σ1.r := by rw [← hσ2]; exact nameR_suf
    have hrσ2 := hsfσ2.trans hrσ1
    have hlσ2 := suf_len hsfσ2
    refine vc_y rfl rfl (y_mv rfl) ?_
    iterate 2 refine vc_y rfl rfl (y_ext rfl rfl) ?_
    iterate 2 refine vc_y rfl rfl (y_as rfl) ?_
    refine vc_end (vq_then (vc_keep [(0, _), (1, _), (4, _), (5, _), (6, _)] ⟨rfl, rfl, rfl, rfl, rfl, trivial⟩ (vc_seq (vc_region ?_))))
    refine vc_y rfl rfl (y_mv rfl) ?_
    refine vc_y rfl rfl ((by exact y_faz (k := 1) rfl Tryz.underlying56 rfl rfl Tryz.sizeOf9 rfl)) ?_
    refine vc_e (e_st st 0 rfl rfl rfl rfl Tryz.sizeOf9 rfl rfl (by first | (right; assumption) | (left; simp)) ?_)
    intro w st; dsimp only [setNth, wr] at st
    refine vc_end (vq_then (vc_keep [(0, _), (1, _), (4, _), (5, _)] ⟨rfl, rfl, rfl, rfl, trivial⟩ (vc_region ?_)))
    iterate 2 refine vc_y rfl rfl (y_mv rfl) ?_
    refine vc_e (e_call [_, _] rfl rfl Tryz.call81 rfl (hB σ1.r.length (by omega) m d hd σ2 hrσ2 (fun _ => by omega) _ (hC.k1 st.chg) (by exact st.res (i := 2) rfl)) ?_)
    rintro _ w ⟨b, σ3, hDσ3, hsfσ3, hP1, cw, ob, cb, Sb, rfl, hQ, hN⟩
    have hNSb := hN.le st.chg.size
    replace st := St.prsT (b := c.rb) st 2 rfl cw (.inl (.head _)) hP1 (holds_sm hQ) hN.2
    dsimp only [setNth] at st
    have hrσ3 := hsfσ3.trans hrσ2
    have hlσ3 := suf_len hsfσ3
    refine vc_y rfl rfl ((by exact y_faz (k := 4) rfl Tryz.underlying56 rfl rfl Tryz.sizeOf48 rfl)) ?_
    refine vc_e (e_st st 1 rfl rfl rfl rfl Tryz.sizeOf48 rfl rfl (by first | (right; assumption) | (left; simp)) ?_)
    intro w st; dsimp only [setNth, wr] at st
    refine vc_end (vq_block (vq_then (vc_keep [(4, _), (5, _)] ⟨rfl, rfl, trivial⟩ (vc_seq (vc_region ?_)))))
    refine vc_y rfl rfl ((by exact y_lda (vs := [_, _, _, _, _, _, _]) st 1 rfl Tryz.isAgg56 Tryz.sizeOf56 rfl rfl)) ?_
    refine vc_e (e_sts (vs := [_, _, _, _, _, _, _]) st 2 rfl rfl rfl rfl rfl Tryz.sizeOf56 rfl rfl (by first | (right; assumption) | (left; simp)) ?_)
    intro w st; dsimp only [setNth, wr] at st
    refine vc_end (vq_then (vc_keep [(4, _)] ⟨rfl, trivial⟩ (vc_ret ?_)))
    refine vq_ret1 st (.inl rfl) Tryz.results64 (by exact .cell 2 rfl rfl Tryz.isAgg56 Tryz.sizeOf56) ?_
    refine ⟨_, rfl, ?_⟩
    have hdone := guard_done (a := atT c.e σ.r) (σ := σ1) (by rw [hσ2]; exact hDσ3)
    rw [← hσ1, ← stmt_lock hk4 hF1 hF2 hT3, ← stmtP_blk, hσ1] at hdone
    rw [← hereE_at] at hdone
    refine ⟨_, σ3, hdone, hsfσ3.trans (hsfσ2.trans hsfσ1), (by exact st.res (i := 3) rfl), st.chg, none, ob, none, 0, cb, 0, [] ++ (Sb ++ []), rfl, SmS_iff.2 ⟨none, 0, ob, cb, none, 0, [], Sb, [], rfl, exr_nil, (by exact (st.res (i := 0) rfl).1), smr_nil, rfl⟩, by simpa using hNSb⟩
   ·
    intro hc43
    try simp only [dn] at hc43
    have hF3 : takeB wLock σ = false := hc43
    rw [takeR_neg hF3] at st
    refine vc_seq (vc_region ?_)
    refine vc_y rfl rfl (y_mv rfl) ?_
    refine vc_e (e_call [_, _] rfl rfl Tryz.call31 rfl (rtake_any c wPrint σ hr _ (hC.k1 st.chg) (by exact st.res (i := 2) rfl)) ?_)
    rintro _ w ⟨rfl, hP1, cw⟩
    replace st := St.prs (b := c.rb) st 2 rfl cw (.inl (.head _)) hP1
    dsimp only [setNth] at st
    refine vc_y rfl rfl (y_as rfl) ?_
    refine vc_end (vq_then (vc_keep [(0, _), (4, _), (5, _), (58, _)] ⟨rfl, rfl, rfl, rfl, trivial⟩ ?_))
    refine vc_ifs rfl ?_ ?_
    ·
     intro hc58
     try simp only [dn] at hc58
     have hT4 : takeB wPrint σ = true := hc58
     have htl := tail_lt (isT_ne (takeB_pos hT4).2)
     rw [takeR_pos hT4] at st
     obtain ⟨σ1, hσ1⟩ : ∃ x, (RS.mk σ.r.tail σ.f) = x := ⟨_, rfl⟩
     rw [hσ1] at st
     have hsfσ1 : σ1.r <:+ σ.r := by rw [← hσ1]; exact List.tail_suffix _
     have hrσ1 := hsfσ1.trans hr
     have hl1 : σ1.r.length < σ.r.length := by rw [← hσ1]; exact htl
     refine vc_seq (vc_region ?_)
     refine vc_y rfl rfl (y_fa0 rfl Tryz.underlying56 rfl rfl Tryz.sizeOf53 rfl) ?_
     refine vc_e (e_st st 0 rfl rfl rfl rfl Tryz.sizeOf53 rfl rfl (by first | (right; assumption) | (left; simp)) ?_)
     intro w st; dsimp only [setNth, wr] at st
     refine vc_end (vq_then (vc_keep [(0, _), (4, _), (5, _)] ⟨rfl, rfl, rfl, trivial⟩ (vc_seq (vc_region ?_))))
     refine vc_y rfl rfl (y_mv rfl) ?_
     refine vc_e (e_call [_, _, _] rfl rfl Tryz.call82 rfl (rexpr_any c σ1 hrσ1 _ (hC.k1 st.chg) (by exact st.res (i := 2) rfl)) ?_)
     rintro _ w ⟨x, σ2, hDσ2, hsfσ2, hP1, cw, ox, cx, Sx, rfl, hQ, hN⟩
     have hNSx := hN.le st.chg.size
     replace st := St.prsT (b := c.rb) st 2 rfl cw (.inl (.head _)) hP1 (holds_ex hQ) hN.2
     dsimp only [setNth] at st
     have hrσ2 := hsfσ2.trans hrσ1
     refine vc_e (e_bs1 (l := [_, _, _, _, _, _]) st rfl rfl rfl rfl Tryz.underlying54 Tryz.sizeOf60 rfl rfl rfl Tryz.zeroValue60 ?_)
     intro b64 w hb64 st
     refine vc_y rfl rfl ((by exact y_faz (k := 3) rfl Tryz.underlying56 rfl rfl Tryz.sizeOf54 rfl)) ?_
     refine vc_e (e_st st 2 rfl rfl rfl rfl Tryz.sizeOf54 rfl rfl (by first | (right; assumption) | (left; simp)) ?_)
     intro w st; dsimp only [setNth, wr] at st
     refine vc_end (vq_then (vc_keep [(0, _), (4, _), (5, _)] ⟨rfl, rfl, rfl, trivial⟩ (vc_region ?_)))
     refine vc_y rfl rfl (y_mv rfl) ?_
     refine vc_e (e_call [_, _] rfl rfl Tryz.call52 rfl (rwant_any c [59] σ2 hrσ2 _ (hC.k1 st.chg) (by exact st.res (i := 4) rfl)) ?_)
     rintro _ w ⟨rfl, hP1, cw⟩
     replace st := St.prs (b := c.rb) st 4 rfl cw (.inl (.head _)) hP1
     dsimp only [setNth] at st
     obtain ⟨σ3, hσ3⟩ : ∃ x, wantR c.e [59] σ2 = x := ⟨_, rfl⟩
     rw [hσ3] at st
     have hsfσ3 : σ3.r <:+ σ2.r := by rw [← hσ3]; exact wantR_suf
     have hrσ3 := hsfσ3.trans hrσ2
     refine vc_end (vq_block (vq_then (vc_keep [(4, _), (5, _)] ⟨rfl, rfl, trivial⟩ (vc_seq (vc_region ?_)))))
     refine vc_y rfl rfl ((by exact y_lda (vs := [_, _, _, _, _, _, _]) st 2 rfl Tryz.isAgg56 Tryz.sizeOf56 rfl rfl)) ?_
     refine vc_e (e_sts (vs := [_, _, _, _, _, _, _]) st 3 rfl rfl rfl rfl rfl Tryz.sizeOf56 rfl rfl (by first | (right; assumption) | (left; simp)) ?_)
     intro w st; dsimp only [setNth, wr] at st
     refine vc_end (vq_then (vc_keep [(4, _)] ⟨rfl, trivial⟩ (vc_ret ?_)))
     refine vq_ret1 st (.inl rfl) Tryz.results64 (by exact .cell 3 rfl rfl Tryz.isAgg56 Tryz.sizeOf56) ?_
     refine ⟨_, rfl, ?_⟩
     have hdone := print_done (a := atT c.e σ.r) hDσ2
     rw [← hσ1, ← stmt_print (blk := blkP c.e m) hk4 hF1 hF2 hF3 hT4, ← stmtP_blk, hσ3] at hdone
     rw [← hereE_at] at hdone
     refine ⟨_, σ3, hdone, hsfσ3.trans (hsfσ2.trans hsfσ1), (by exact st.res (i := 4) rfl), st.chg, (some ⟨b64, 0, none⟩), none, none, 1, 0, 0, (b64 :: Sx) ++ ([] ++ []), rfl, SmS_iff.2 ⟨(some ⟨b64, 0, none⟩), 1, none, 0, none, 0, (b64 :: Sx), [], [], rfl, (by exact ex_one (st.res (i := 0) rfl) (st.res (i := 1) rfl).1), smr_nil, smr_nil, rfl⟩, by simpa using Nw.app (S := [b64]) ⟨by simp, by simpa using hb64⟩ hNSx (fun b hb hb' => by exact st.ne (i := 0) (j := 1) (by decide) rfl rfl b hb hb')⟩
    ·
     intro hc58
     try simp only [dn] at hc58
     have hF4 : takeB wPrint σ = false := hc58
     rw [takeR_neg hF4] at st
     refine vc_seq (vc_region ?_)
     refine vc_y rfl rfl (y_mv rfl) ?_
     refine vc_e (e_call [_, _] rfl rfl Tryz.call31 rfl (rtake_any c wSkip σ hr _ (hC.k1 st.chg) (by exact st.res (i := 2) rfl)) ?_)
     rintro _ w ⟨rfl, hP1, cw⟩
     replace st := St.prs (b := c.rb) st 2 rfl cw (.inl (.head _)) hP1
     dsimp only [setNth] at st
     refine vc_y rfl rfl (y_as rfl) ?_
     refine vc_end (vq_then (vc_keep [(0, _), (4, _), (5, _), (68, _)] ⟨rfl, rfl, rfl, rfl, trivial⟩ ?_))
     refine vc_ifs rfl ?_ ?_
     ·
      intro hc68
      try simp only [dn] at hc68
      have hT5 : takeB wSkip σ = true := hc68
      have htl := tail_lt (isT_ne (takeB_pos hT5).2)
      rw [takeR_pos hT5] at st
      obtain ⟨σ1, hσ1⟩ : ∃ x, (RS.mk σ.r.tail σ.f) = x := ⟨_, rfl⟩
      rw [hσ1] at st
      have hsfσ1 : σ1.r <:+ σ.r := by rw [← hσ1]; exact List.tail_suffix _
      have hrσ1 := hsfσ1.trans hr
      have hl1 : σ1.r.length < σ.r.length := by rw [← hσ1]; exact htl
      refine vc_seq (vc_region ?_)
      refine vc_y rfl rfl (y_fa0 rfl Tryz.underlying56 rfl rfl Tryz.sizeOf53 rfl) ?_
      refine vc_e (e_st st 0 rfl rfl rfl rfl Tryz.sizeOf53 rfl rfl (by first | (right; assumption) | (left; simp)) ?_)
      intro w st; dsimp only [setNth, wr] at st
      refine vc_end (vq_then (vc_keep [(0, _), (4, _), (5, _)] ⟨rfl, rfl, rfl, trivial⟩ (vc_region ?_)))
      refine vc_y rfl rfl (y_mv rfl) ?_
      refine vc_e (e_call [_, _] rfl rfl Tryz.call52 rfl (rwant_any c [59] σ1 hrσ1 _ (hC.k1 st.chg) (by exact st.res (i := 2) rfl)) ?_)
      rintro _ w ⟨rfl, hP1, cw⟩
      replace st := St.prs (b := c.rb) st 2 rfl cw (.inl (.head _)) hP1
      dsimp only [setNth] at st
      obtain ⟨σ3, hσ3⟩ : ∃ x, wantR c.e [59] σ1 = x := ⟨_, rfl⟩
      rw [hσ3] at st
      have hsfσ3 : σ3.r <:+ σ1.r := by rw [← hσ3]; exact wantR_suf
      have hrσ3 := hsfσ3.trans hrσ1
      refine vc_end (vq_block (vq_then (vc_keep [(4, _), (5, _)] ⟨rfl, rfl, trivial⟩ (vc_seq (vc_region ?_)))))
      refine vc_y rfl rfl ((by exact y_lda (vs := [_, _, _, _, _, _, _]) st 0 rfl Tryz.isAgg56 Tryz.sizeOf56 rfl rfl)) ?_
      refine vc_e (e_sts (vs := [_, _, _, _, _, _, _]) st 1 rfl rfl rfl rfl rfl Tryz.sizeOf56 rfl rfl (by first | (right; assumption) | (left; simp)) ?_)
      intro w st; dsimp only [setNth, wr] at st
      refine vc_end (vq_then (vc_keep [(4, _)] ⟨rfl, trivial⟩ (vc_ret ?_)))
      refine vq_ret1 st (.inl rfl) Tryz.results64 (by exact .cell 1 rfl rfl Tryz.isAgg56 Tryz.sizeOf56) ?_
      refine ⟨_, rfl, ?_⟩
      have hdone := skip_done (e := c.e) (a := atT c.e σ.r) (σ := σ1)
      rw [hσ3, ← hσ1, ← stmt_skip (blk := blkP c.e m) hk4 hF1 hF2 hF3 hF4 hT5, ← stmtP_blk] at hdone
      rw [← hereE_at] at hdone
      refine ⟨_, σ3, hdone, hsfσ3.trans hsfσ1, (by exact st.res (i := 2) rfl), st.chg, none, none, none, 0, 0, 0, [] ++ ([] ++ []), rfl, SmS_iff.2 ⟨none, 0, none, 0, none, 0, [], [], [], rfl, exr_nil, smr_nil, smr_nil, rfl⟩, Nw.nil⟩
     ·
      intro hc68
      try simp only [dn] at hc68
      have hF5 : takeB wSkip σ = false := hc68
      rw [takeR_neg hF5] at st
      refine vc_region ?_
      refine vc_y rfl rfl (y_mv rfl) ?_
      refine vc_y rfl rfl ((by exact y_lda (vs := [_, _, _, _, _, _, _]) st 0 rfl Tryz.isAgg56 Tryz.sizeOf56 rfl rfl)) ?_
      refine vc_e (e_call [_, _] rfl rfl Tryz.call83 rfl (rassign_any (hereE c.e σ.r).at_ c σ hr _ (hC.k1 st.chg) (by exact st.res (i := 2) rfl)) ?_)
      rintro _ w ⟨s, σ3, hD, hsf, hP1, cw, oe, ob, ol, ce, cb, cl, Ss, rfl, hQ, hN⟩
      have hNSs := hN.le st.chg.size
      replace st := St.prsT (b := c.rb) st 2 rfl cw (.inl (.head _)) hP1 (holds_sms hQ) hN.2
      dsimp only [setNth] at st
      rw [hereE_at] at hD
      refine vc_e (e_sts (vs := [_, _, _, _, _, _, _]) st 1 rfl rfl rfl rfl rfl Tryz.sizeOf56 rfl rfl (by first | (right; assumption) | (left; simp)) ?_)
      intro w st; dsimp only [setNth, wr] at st
      refine vc_end (vq_block (vq_then (vc_keep [(4, _), (5, _)] ⟨rfl, rfl, trivial⟩ (vc_seq (vc_region ?_)))))
      refine vc_y rfl rfl ((by exact y_lda (vs := [_, _, _, _, _, _, _]) st 1 rfl Tryz.isAgg56 Tryz.sizeOf56 rfl rfl)) ?_
      refine vc_e (e_sts (vs := [_, _, _, _, _, _, _]) st 2 rfl rfl rfl rfl rfl Tryz.sizeOf56 rfl rfl (by first | (right; assumption) | (left; simp)) ?_)
      intro w st; dsimp only [setNth, wr] at st
      refine vc_end (vq_then (vc_keep [(4, _)] ⟨rfl, trivial⟩ (vc_ret ?_)))
      refine vq_ret1 st (.inl rfl) Tryz.results64 (by exact .cell 2 rfl rfl Tryz.isAgg56 Tryz.sizeOf56) ?_
      refine ⟨_, rfl, ?_⟩
      exact ⟨s, σ3, by rw [stmtP_blk, stmt_assign hk4 hF1 hF2 hF3 hF4 hF5]; exact hD, hsf, (by exact st.res (i := 3) rfl), st.chg, oe, ob, ol, ce, cb, cl, Ss, rfl, (by exact (st.res (i := 0) rfl).1), hNSs⟩

theorem rbody_any (c : RCtx) : ∀ n, SMR c n ∧ SSR c n ∧ BKR c n := fun n => by
 induction n using Nat.strongRecOn with
 | _ n ih =>
  have hS := rstmt_of c n (fun k hk => (ih k hk).2.2)
  have hSS := rstmts_of c n hS
  exact ⟨hS, hSS, rblock_of c n hSS⟩
theorem rstmts_any (c : RCtx) (σ : RS) (hr : σ.r <:+ c.ts) (w : World) (hC : RCok c w) (hP : RAt c σ w) : Ret Tryz.prog 53 [.pointer (some ⟨c.rb, 0, none⟩), .int .i64 1] w (RRes c σ (restP c.e 63) w (HB w)) :=
 (rbody_any c σ.r.length).2.1 63 1 (by omega) σ hr (fun _ => ⟨rfl, Nat.le_refl _⟩) w hC hP

end Go.Proofs.YtggnfanphcaamaaGreatDoor

