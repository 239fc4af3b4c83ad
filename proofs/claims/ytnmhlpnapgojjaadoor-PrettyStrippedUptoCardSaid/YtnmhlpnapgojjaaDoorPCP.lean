/- A part of the proof: contracts of functions and plain laws; each theorem says its own conditions. -/
import Derived.Test.YtnmhlpnapgojjaaDoorK12
import Derived.Test.YtnmhlpnapgojjaaDoorK13
namespace Go.Proofs.YtnmhlpnapgojjaaDoor
open Go.RowKit Sx LexS _root_.Go.Proofs.Tryd
set_option linter.unusedVariables false
set_option linter.unusedSimpArgs false
abbrev no0 : Int → Int := fun _ => 0
abbrev stripP (p : Pg) : Pg := trP idS no0 p

theorem strip1_any (s : List UInt8) (w : World) : Ret Tryd.prog 32 [str s] w fun v w' => v = str s ∧ w' = w := by
 refine ret_of [_] func32 rfl ntmps32 rfl ?_
 have st := St.init w []
 refine vc_seq (vc_region ?_)
 refine vc_y rfl rfl (y_as rfl) ?_
 refine vc_end (vq_then (vc_keep [(0, _)] ⟨rfl, trivial⟩ (vc_seq (vc_region ?_))))
 refine vc_y rfl rfl (y_mv rfl) ?_
 refine vc_y rfl rfl (y_as rfl) ?_
 refine vc_end (vq_then (vc_keep [(2, _)] ⟨rfl, trivial⟩ (vc_ret ?_)))
 refine vq_ret1 st (.inl rfl) results32 (.tmp rfl) ?_
 refine ⟨_, rfl, ?_⟩
 exact ⟨rfl, rfl⟩

theorem strip2_any (a : Int) (w : World) : Ret Tryd.prog 33 [.int .i64 a] w fun v w' => v = .int .i64 0 ∧ w' = w := by
 refine ret_of [_] func33 rfl ntmps33 rfl ?_
 have st := St.init w []
 refine vc_seq (vc_region ?_)
 refine vc_y rfl rfl (y_as rfl) ?_
 refine vc_end (vq_then (vc_keep [] trivial (vc_seq (vc_region ?_))))
 refine vc_y rfl rfl (y_as rfl) ?_
 refine vc_end (vq_then (vc_keep [(2, _)] ⟨rfl, trivial⟩ (vc_ret ?_)))
 refine vq_ret1 st (.inl rfl) results33 (.tmp rfl) ?_
 refine ⟨_, rfl, ?_⟩
 exact ⟨rfl, rfl⟩

def fnsS : Fns := ⟨idS, no0, 32, 33, [], [], [], fun _ => True⟩
theorem fnsS_ok : fnsS.Ok := ⟨fun s w _ => strip1_any s w, fun a w _ => strip2_any a w, fun _ _ _ _ => trivial, call32, call33⟩

theorem strip_any {n0 : Nat} (p : Pg) (hok : OkP p) (os ol ot : Option Addr) (cs cl ct : Nat) (w : World) (hSh : DcRow w (· < n0) os p.shared) (hL : DcRow w (· < n0) ol p.locks) (hT : ThRow w (· < n0) ot p.threads) (hn0 : n0 ≤ w.heap.size) :
    Ret Tryd.prog 12 [.agg (pgL p os ol ot cs cl ct).toArray] w fun v w' => ∃ (gs gl gt : Option Addr) (gcs gcl gct : Nat) (S : List Nat), v = .agg (pgL (stripP p) gs gl gt gcs gcl gct).toArray ∧ PgQ w' (stripP p) (pgL (stripP p) gs gl gt gcs gcl gct) S ∧ Nw w.heap.size S ∧ Chg [] w w' := by
 refine ret_of [_] func12 rfl ntmps12 rfl ?_
 have st := St.init w []
 obtain ⟨w0, rfl⟩ : ∃ w0, w0 = w := ⟨_, rfl⟩
 refine vc_seq (vc_region ?_)
 refine vc_e (e_bx (l := [_, _, _]) st rfl rfl rfl rfl ?_)
 intro b1 w hb1 st
 refine vc_e (e_al (l := [_, _, _]) st rfl rfl zeroValue25 rfl ?_)
 intro b2 w hb2 st
 refine vc_end (vq_then (vc_keep [(1, _), (2, _)] ⟨rfl, rfl, trivial⟩ (vc_seq (vc_region ?_))))
 refine vc_y rfl rfl ((by exact y_lda (vs := [_, _, _]) st 1 rfl isAgg25 sizeOf25 rfl rfl)) ?_
 refine vc_e (e_call [_, _, _] rfl rfl call31 rfl (turned_any fnsS fnsS_ok p hok _ _ _ _ _ _ _ (RowC.kept hSh (Same.of_nil st.chg)) (RowC.kept hL (Same.of_nil st.chg)) (hT.kept (Same.of_nil st.chg)) (Nat.le_trans hn0 st.chg.size) trivial (fun b hb => by cases hb)) ?_)
 rintro _ w ⟨l, S, rfl, hQ, hN, cw⟩
 have hQ2 := hQ
 obtain ⟨gs, gcs, gl, gcl, gt, gct, Sa, Sb, Sc, rfl, -⟩ := hQ2
 have hN9 := hN.le st.chg.size
 replace st := St.pushR (r := .tree S (fun w => PgQ w (stripP p) (pgL (stripP p) gs gl gt gcs gcl gct) S)) st cw (holds_of hQ hQ.lt (fun a b h hk => h.kept hk)) hN.2
 refine vc_e (e_sts (vs := [_, _, _]) st 1 rfl rfl rfl rfl rfl sizeOf25 rfl rfl (by first | (right; assumption) | (left; simp)) ?_)
 intro w st; dsimp only [setNth, wr] at st
 refine vc_end (vq_then (vc_keep [(2, _)] ⟨rfl, trivial⟩ (vc_ret ?_)))
 refine vq_ret1 st (.inl rfl) results12 (by exact .cell 1 rfl rfl isAgg25 sizeOf25) ?_
 refine ⟨_, rfl, ?_⟩
 exact ⟨gs, gl, gt, gcs, gcl, gct, S, rfl, (st.res (i := 0) rfl).1, hN9, st.chg⟩

set_option maxHeartbeats 2000000 in
theorem lawPrettyStripped (p : Pg) (os ol ot : Option Addr) (cs cl ct : Nat) (w : World) (hSh : DcRow w (· < w.heap.size) os p.shared) (hL : DcRow w (· < w.heap.size) ol p.locks) (hT : ThRow w (· < w.heap.size) ot p.threads) (hok : OkP p) (hsg : Sig w) (hlen : pgOk p = true → (pgT p).length ≤ 1099511627776) :
    Ret Tryd.prog 4 [.agg (pgL p os ol ot cs cl ct).toArray] w fun v w' => v = .bool true ∧ Chg [] w w' := by
 refine ret_of [_] func4 rfl ntmps4 rfl ?_
 have st := St.init w []
 obtain ⟨w0, rfl⟩ : ∃ w0, w0 = w := ⟨_, rfl⟩
 have hok2 : OkP (stripP p) := okP_tr (fun a h => by simp [i64]) hok
 have hlen2 : pgOk (stripP p) = true → (pgT (stripP p)).length ≤ 1099511627776 := fun h => by rw [pgT_tr]; exact hlen (by rwa [pgOk_tr] at h)
 have htw : stripP (stripP p) = stripP p := trP_trP p
 refine vc_seq (vc_region ?_)
 refine vc_e (e_bx (l := [_, _, _]) st rfl rfl rfl rfl ?_)
 intro b1 w hb1 st
 refine vc_y rfl rfl (y_as rfl) ?_
 refine vc_end (vq_then (vc_keep [(1, _)] ⟨rfl, trivial⟩ (vc_seq (vc_seq (vc_region ?_)))))
 refine vc_e (e_call [] rfl rfl call11 rfl (begins_any _ (hsg.kept st.chg)) ?_)
 rintro _ w ⟨rfl, cw⟩
 replace st := st.call0 cw
 refine vc_y rfl rfl (y_not rfl) ?_
 refine vc_end (vq_then (vc_keep [(1, _), (9, _)] ⟨rfl, rfl, trivial⟩ ?_))
 refine vc_ifs rfl ?_ ?_
 ·
  intro hc9
  exfalso; revert hc9; simp; try omega
 ·
  intro hc9
  try simp only [dn] at hc9
  refine vc_code_skip (vq_then (vc_keep [(1, _)] ⟨rfl, trivial⟩ (vc_seq (vc_region ?_))))
  refine vc_y rfl rfl ((by exact y_lda (vs := [_, _, _]) st 0 rfl isAgg25 sizeOf25 rfl rfl)) ?_
  refine vc_e (e_call [_] rfl rfl call12 rfl (strip_any p hok _ _ _ _ _ _ _ (RowC.mono (RowC.kept hSh (Same.of_nil st.chg)) (fun b hb => Nat.lt_of_lt_of_le hb st.chg.size)) (RowC.mono (RowC.kept hL (Same.of_nil st.chg)) (fun b hb => Nat.lt_of_lt_of_le hb st.chg.size)) ((hT.kept (Same.of_nil st.chg)).mono (fun b hb => Nat.lt_of_lt_of_le hb st.chg.size)) (Nat.le_refl _)) ?_)
  rintro _ w ⟨gs, gl, gt, gcs, gcl, gct, Sg, rfl, hQ, hN, cw⟩
  replace st := St.pushR (r := .tree Sg (fun w => PgQ w (stripP p) (pgL (stripP p) gs gl gt gcs gcl gct) Sg)) st cw (holds_of hQ hQ.lt (fun a b h hk => h.kept hk)) hN.2
  refine vc_e (e_al (l := [_, _, _]) st rfl rfl zeroValue25 rfl ?_)
  intro b3 w hb3 st
  refine vc_e (e_sts (vs := [_, _, _]) st 0 rfl rfl rfl rfl rfl sizeOf25 rfl rfl (by first | (right; assumption) | (left; simp)) ?_)
  intro w st; dsimp only [setNth, wr] at st
  refine vc_end (vq_then (vc_keep [(1, _), (3, _)] ⟨rfl, rfl, trivial⟩ (vc_seq (vc_region ?_))))
  refine vc_y rfl rfl ((by exact y_lda (vs := [_, _, _]) st 2 rfl isAgg25 sizeOf25 rfl rfl)) ?_
  refine vc_e (e_call [_] rfl rfl call7 rfl (wprintP_any p _ _ _ _ _ _ _ (RowC.mono (RowC.kept hSh (Same.of_nil st.chg)) (fun b hb => Nat.lt_of_lt_of_le hb st.chg.size)) (RowC.mono (RowC.kept hL (Same.of_nil st.chg)) (fun b hb => Nat.lt_of_lt_of_le hb st.chg.size)) ((hT.kept (Same.of_nil st.chg)).mono (fun b hb => Nat.lt_of_lt_of_le hb st.chg.size)) hok (hsg.kept st.chg) hlen) ?_)
  rintro _ w ⟨rfl, cw⟩
  replace st := st.call0 cw
  refine vc_y rfl rfl (y_mv rfl) ?_
  iterate 2 refine vc_y rfl rfl (y_ext rfl rfl) ?_
  iterate 2 refine vc_y rfl rfl (y_as rfl) ?_
  refine vc_end (vq_then (vc_keep [(1, _), (3, _), (4, _), (5, _)] ⟨rfl, rfl, rfl, rfl, trivial⟩ (vc_seq (vc_region ?_))))
  refine vc_y rfl rfl ((by exact y_lda (vs := [_, _, _]) st 0 rfl isAgg25 sizeOf25 rfl rfl)) ?_
  refine vc_e (e_call [_] rfl rfl call7 rfl (wprintP_any (stripP p) _ _ _ _ _ _ _ (PgQ.rows (st.res (i := 1) rfl).1).1 (PgQ.rows (st.res (i := 1) rfl).1).2.1 (PgQ.rows (st.res (i := 1) rfl).1).2.2 hok2 (hsg.kept st.chg) hlen2) ?_)
  rintro _ w ⟨rfl, cw⟩
  replace st := st.call0 cw
  rw [pgRes_tr]
  refine vc_y rfl rfl (y_mv rfl) ?_
  iterate 2 refine vc_y rfl rfl (y_ext rfl rfl) ?_
  iterate 2 refine vc_y rfl rfl (y_as rfl) ?_
  refine vc_end (vq_then (vc_keep [(1, _), (3, _), (4, _), (5, _), (6, _), (7, _)] ⟨rfl, rfl, rfl, rfl, rfl, rfl, trivial⟩ (vc_seq ?_)))
  refine vc_draw Tryd.mixed [(0, true), (1, true), (2, true), (3, true), (4, true), (5, true), (6, true), (7, true), (8, true), (9, true), (10, true), (11, false), (12, true), (13, true), (14, true), (16, true), (15, false), (17, false), (18, true), (19, true)] (fun w => St _ _ [.blk b3 (.cells (pgL (stripP p) gs gl gt gcs gcl gct).toArray 25 (0, 0)), .tree Sg (fun w => PgQ w (stripP p) (pgL (stripP p) gs gl gt gcs gcl gct) Sg), .blk b1 (.cells (pgL p os ol ot cs cl ct).toArray 25 (0, 0))] w) (by exact st) (by kernel_rfl) (by repeat (first | exact okQ_body | refine okQ_then ?_ | refine okQ_block ?_)) rfl (by kernel_rfl) ?_
  intro w cd; replace st := st.call0 cd; clear cd
  have hS : St _ _ [.blk b3 (.cells (pgL (stripP p) gs gl gt gcs gcl gct).toArray 25 (0, 0)), .tree Sg (fun w => PgQ w (stripP p) (pgL (stripP p) gs gl gt gcs gcl gct) Sg), .blk b1 (.cells (pgL p os ol ot cs cl ct).toArray 25 (0, 0))] w := (by exact st)
  iterate 2 refine vp_take rfl rfl rfl hS (fun w st => y_mv rfl) ?_
  refine vp_take rfl rfl rfl hS (fun w st => y_eqs rfl rfl) ?_
  refine vp_part rfl rfl rfl hS rfl ?_ ?_
  ·
   intro hg25
   try simp only [dn] at hg25
   iterate 2 refine vp_take rfl rfl rfl hS (fun w st => y_mv rfl) ?_
   refine vp_take rfl rfl rfl hS (fun w st => y_eqi rfl rfl) ?_
   refine vp_take rfl rfl rfl hS (fun w st => y_pickt rfl rfl) ?_
   refine vp_part rfl rfl rfl hS rfl ?_ ?_
   ·
    intro hg30
    try simp only [dn] at hg30
    refine vp_take rfl rfl rfl hS (fun w st => (by exact y_lda (vs := [_, _, _]) st 2 rfl isAgg25 sizeOf25 rfl rfl)) ?_
    refine vp_take rfl rfl rfl hS (fun w st => (by exact y_lda (vs := [_, _, _]) st 0 rfl isAgg25 sizeOf25 rfl rfl)) ?_
    refine vp_do rfl (e_call [_, _] rfl rfl call13 rfl (rsamePg_any p (stripP p) hok _ _ _ _ _ _ _ _ _ _ _ _ _ (RowC.mono (RowC.kept hSh (Same.of_nil st.chg)) (fun b hb => Nat.lt_of_lt_of_le hb st.chg.size)) (RowC.mono (RowC.kept hL (Same.of_nil st.chg)) (fun b hb => Nat.lt_of_lt_of_le hb st.chg.size)) ((hT.kept (Same.of_nil st.chg)).mono (fun b hb => Nat.lt_of_lt_of_le hb st.chg.size)) (PgQ.rows (st.res (i := 1) rfl).1).1 (PgQ.rows (st.res (i := 1) rfl).1).2.1 (PgQ.rows (st.res (i := 1) rfl).1).2.2) ?_)
    rintro _ w ⟨rfl, cw⟩
    replace st := st.call0 cw
    rw [sameP_tr]
    refine vp_next (by exact st) ?_; intro hS
    refine vp_take rfl rfl rfl hS (fun w st => y_pickt rfl rfl) ?_
    refine vp_part rfl rfl rfl hS rfl ?_ ?_
    ·
     intro hg35
     try simp only [dn] at hg35
     iterate 2 refine vp_take rfl rfl rfl hS (fun w st => (by exact y_lda (vs := [_, _, _]) st 0 rfl isAgg25 sizeOf25 rfl rfl)) ?_
     refine vp_do rfl (e_call [_] rfl rfl call12 rfl (strip_any (stripP p) hok2 _ _ _ _ _ _ _ (PgQ.rows (st.res (i := 1) rfl).1).1 (PgQ.rows (st.res (i := 1) rfl).1).2.1 (PgQ.rows (st.res (i := 1) rfl).1).2.2 (Nat.le_refl _)) ?_)
     rintro _ w ⟨hs9, hl9, ht9, hcs9, hcl9, hct9, Sh, rfl, hQ, hN, cw⟩
     rw [htw] at *
     replace st := St.pushR (r := .tree Sh (fun w => PgQ w (stripP p) (pgL (stripP p) hs9 hl9 ht9 hcs9 hcl9 hct9) Sh)) st cw (holds_of hQ hQ.lt (fun a b h hk => h.kept hk)) hN.2
     refine vp_next (by exact st.drop (by repeat (first | exact sl0 | apply sl1 | apply sl2))) ?_; intro hS
     refine vp_do rfl (e_call [_, _] rfl rfl call10 rfl (rexactly_any (stripP p) (stripP p) hok2 _ _ _ _ _ _ _ _ _ _ _ _ _ (PgQ.rows (st.res (i := 0) rfl).1).1 (PgQ.rows (st.res (i := 0) rfl).1).2.1 (PgQ.rows (st.res (i := 0) rfl).1).2.2 (PgQ.rows (st.res (i := 2) rfl).1).1 (PgQ.rows (st.res (i := 2) rfl).1).2.1 (PgQ.rows (st.res (i := 2) rfl).1).2.2) ?_)
     rintro _ w ⟨rfl, cw⟩
     replace st := st.call0 cw
     rw [exactP_refl]
     refine vp_next (by exact st.drop (by repeat (first | exact sl0 | apply sl1 | apply sl2))) ?_; intro hS
     refine vp_take rfl rfl rfl hS (fun w st => y_pickt rfl rfl) ?_
     refine vp_take rfl rfl rfl hS (fun w st => y_as rfl) ?_
     refine vp_end (vq_then (vc_keep [(2, _)] ⟨rfl, trivial⟩ (vc_ret ?_)))
     refine vq_ret1 st (.inl rfl) results4 (.tmp rfl) ?_
     refine ⟨_, rfl, ?_⟩
     first | exact ⟨rfl, st.chg⟩ | (exfalso; simp_all; done)
    ·
     intro hg35
     exfalso; revert hg35; simp; try omega
   ·
    intro hg30
    try simp only [dn] at hg30
    iterate 2 refine vp_skip rfl rfl rfl hS ?_
    refine vp_do rfl (e_skip rfl rfl (vp_next hS (fun hS => ?_)))
    refine vp_take rfl rfl rfl hS (fun w st => y_pickf rfl rfl) ?_
    refine vp_take rfl rfl rfl hS (fun w st => y_mv rfl) ?_
    iterate 2 refine vp_skip rfl rfl rfl hS ?_
    refine vp_do rfl (e_skip rfl rfl (vp_next hS (fun hS => ?_)))
    refine vp_do rfl (e_skip rfl rfl (vp_next hS (fun hS => ?_)))
    refine vp_take rfl rfl rfl hS (fun w st => y_pickf rfl rfl) ?_
    refine vp_take rfl rfl rfl hS (fun w st => y_as rfl) ?_
    refine vp_end (vq_then (vc_keep [(2, _)] ⟨rfl, trivial⟩ (vc_ret ?_)))
    refine vq_ret1 st (.inl rfl) results4 (.tmp rfl) ?_
    refine ⟨_, rfl, ?_⟩
    first | exact ⟨rfl, st.chg⟩ | (exfalso; simp_all; done)
  ·
   intro hg25
   try simp only [dn] at hg25
   iterate 3 refine vp_skip rfl rfl rfl hS ?_
   refine vp_take rfl rfl rfl hS (fun w st => y_pickf rfl rfl) ?_
   refine vp_take rfl rfl rfl hS (fun w st => y_mv rfl) ?_
   iterate 2 refine vp_skip rfl rfl rfl hS ?_
   refine vp_do rfl (e_skip rfl rfl (vp_next hS (fun hS => ?_)))
   refine vp_take rfl rfl rfl hS (fun w st => y_pickf rfl rfl) ?_
   refine vp_take rfl rfl rfl hS (fun w st => y_mv rfl) ?_
   iterate 2 refine vp_skip rfl rfl rfl hS ?_
   refine vp_do rfl (e_skip rfl rfl (vp_next hS (fun hS => ?_)))
   refine vp_do rfl (e_skip rfl rfl (vp_next hS (fun hS => ?_)))
   refine vp_take rfl rfl rfl hS (fun w st => y_pickf rfl rfl) ?_
   refine vp_take rfl rfl rfl hS (fun w st => y_as rfl) ?_
   refine vp_end (vq_then (vc_keep [(2, _)] ⟨rfl, trivial⟩ (vc_ret ?_)))
   refine vq_ret1 st (.inl rfl) results4 (.tmp rfl) ?_
   refine ⟨_, rfl, ?_⟩
   first | exact ⟨rfl, st.chg⟩ | (exfalso; simp_all; done)

end Go.Proofs.YtnmhlpnapgojjaaDoor

