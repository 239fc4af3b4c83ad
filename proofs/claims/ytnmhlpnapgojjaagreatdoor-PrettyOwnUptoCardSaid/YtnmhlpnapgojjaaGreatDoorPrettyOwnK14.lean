/- A part of the proof: contracts of functions and plain laws; each theorem says its own conditions. -/
import Derived.Test.YtnmhlpnapgojjaaGreatDoorPrettyOwnK1
import Derived.Test.YtnmhlpnapgojjaaGreatDoorPrettyOwnK3
import Derived.Test.YtnmhlpnapgojjaaGreatDoorPrettyOwnK5
import Derived.Test.YtnmhlpnapgojjaaGreatDoorPrettyOwnK13
import Derived.Test.YtnmhlpnapgojjaaGreatDoorPrettyOwnK12
import Derived.Test.YtnmhlpnapgojjaaGreatDoorPrettyOwnK11
set_option linter.unusedVariables false
set_option linter.unusedSimpArgs false
namespace Go.Proofs.YtnmhlpnapgojjaaGreatDoor
open Go.RowKit Sx LexS _root_.Go.Proofs.Tryz
abbrev pg0 : Pg := ⟨[], [], []⟩
theorem pgQ_nil (w : World) : PgQ w pg0 (pgL pg0 none none none 0 0 0) [] :=
 ⟨none, 0, none, 0, none, 0, [], [], [], rfl, ⟨World.ownsRow_nil _ _ _ _, rfl⟩, ⟨World.ownsRow_nil _ _ _ _, rfl⟩, ⟨[], [], World.ownsRow_nil _ _ _ _, rfl, by simp [ThSs]⟩, rfl⟩
/-- what a renaming comes to: the tree and the fault -/
def renRes (p : Pg) (fr tn : Wd) : Pg × Int := if pgOk p = false then (pg0, 40) else if renOk p tn = false then (pg0, 2) else (renP p fr tn, 0)
theorem renRes_ok {p q : Pg} {fr tn : Wd} {y : Int} (h : renRes p fr tn = (q, y)) (hok : OkP p) : OkP q := by
 unfold renRes at h
 split at h
 ·cases h; exact ⟨⟨by simp, by simp⟩, ⟨by simp, by simp⟩, by simp, by simp⟩
 ·split at h
  ·cases h; exact ⟨⟨by simp, by simp⟩, ⟨by simp, by simp⟩, by simp, by simp⟩
  ·cases h; exact okP_tr (fun a h => h) hok
theorem renRes_none {p q : Pg} {fr tn : Wd} {y : Int} (h : renRes p fr tn = (q, y)) : y = 0 ∨ q.threads = [] := by
 unfold renRes at h
 split at h
 ·cases h; exact .inr rfl
 ·split at h
  ·cases h; exact .inr rfl
  ·cases h; exact .inl rfl
theorem RenV.uni {p q : Pg} {fr tn : Wd} {y : Int} {v : Value} {w w' : World} (hq : renRes p fr tn = (q, y)) (h : RenV p fr tn v w w') :
    ∃ (gs gl gt : Option Addr) (gcs gcl gct : Nat) (S : List Nat), v = .tuple #[.agg (pgL q gs gl gt gcs gcl gct).toArray, .int .i64 y] ∧ PgQ w' q (pgL q gs gl gt gcs gcl gct) S ∧ Nw w.heap.size S := by
 unfold renRes at hq
 rcases h with ⟨h1, rfl⟩ | ⟨h1, h2, rfl⟩ | ⟨h1, h2, h3⟩
 ·rw [if_pos h1] at hq; cases hq; exact ⟨none, none, none, 0, 0, 0, [], rfl, pgQ_nil _, Nw.nil⟩
 ·rw [if_neg (by simp [h1]), if_pos h2] at hq; cases hq; exact ⟨none, none, none, 0, 0, 0, [], rfl, pgQ_nil _, Nw.nil⟩
 ·rw [if_neg (by simp [h1]), if_neg (by simp [h2])] at hq; cases hq; exact h3
theorem namesL_strip (p : Pg) : namesL (stripP p) = namesL p := by
 unfold namesL stripP
 rw [nmsP_tr, show (nmsP p).map idS = nmsP p from by simp [idS]]
theorem pgQ_form {w : World} {p : Pg} {l : List Value} {B : List Nat} (h : PgQ w p l B) : ∃ (gs gl gt : Option Addr) (gcs gcl gct : Nat), l = pgL p gs gl gt gcs gcl gct := by
 obtain ⟨os, cs, ol, cl, ot, ct, Ss, Sl, St, e, -⟩ := h
 exact ⟨os, ol, ot, cs, cl, ct, e⟩
theorem pgQ_rows {w : World} {p : Pg} {gs gl gt : Option Addr} {gcs gcl gct : Nat} {B : List Nat} (h : PgQ w p (pgL p gs gl gt gcs gcl gct) B) : DcRow w (· < w.heap.size) gs p.shared ∧ DcRow w (· < w.heap.size) gl p.locks ∧ ThRow w (· < w.heap.size) gt p.threads := by
 obtain ⟨os, cs, ol, cl, ot, ct, e, h1, h2, h3⟩ := PgS.toV h (T := (· < w.heap.size)) (fun b hb => PgS.lt h b hb)
 simp only [List.cons.injEq, Value.slice.injEq, and_true, true_and] at e
 obtain ⟨⟨rfl, -⟩, ⟨rfl, -⟩, rfl, -⟩ := e
 exact ⟨h1, h2, h3⟩
/-- a copy, its cells named -/
theorem rcopyF_any {n0 : Nat} (p : Pg) (hok : OkP p) (os ol ot : Option Addr) (cs cl ct : Nat) (w : World) (hSh : DcRow w (· < n0) os p.shared) (hL : DcRow w (· < n0) ol p.locks) (hT : ThRow w (· < n0) ot p.threads) (hn0 : n0 ≤ w.heap.size) :
    Ret Tryz.prog 23 [.agg (pgL p os ol ot cs cl ct).toArray] w fun v w' => ∃ (gs gl gt : Option Addr) (gcs gcl gct : Nat) (S : List Nat), v = .agg (pgL p gs gl gt gcs gcl gct).toArray ∧ PgQ w' p (pgL p gs gl gt gcs gcl gct) S ∧ Nw w.heap.size S ∧ Chg [] w w' :=
 (rcopyP_any p hok os ol ot cs cl ct w hSh hL hT hn0).mono fun v w' ⟨l, S, hv, hQ, hN, c⟩ => by
  obtain ⟨gs, gl, gt, gcs, gcl, gct, rfl⟩ := pgQ_form hQ
  exact ⟨gs, gl, gt, gcs, gcl, gct, S, hv, hQ, hN, c⟩
/-- 'spoil' of a tree in blocks of its own -/
theorem spoilP_any (p : Pg) (hok : OkP p) (os ol ot : Option Addr) (cs cl ct : Nat) (S : List Nat) (w : World) (h : PgQ w p (pgL p os ol ot cs cl ct) S) (hn : S.Nodup) :
    Ret Tryz.prog 25 [.agg (pgL p os ol ot cs cl ct).toArray] w fun v w' => v = .tuple #[] ∧ Chg S w w' := by
 obtain ⟨⟨os', ns', cs', ot', ct', ths⟩, ol', cl', S', e, hs, hF, hD⟩ := PgF.of hok h
 simp only [pgL, List.cons.injEq, Value.slice.injEq, and_true] at e
 obtain ⟨⟨rfl, e1, rfl⟩, ⟨rfl, -, rfl⟩, rfl, e2, rfl⟩ := e
 have k := spoil_any os ol ot ns' cs p.locks.length cl ct ths S' w hF (hs.nodup hn) hD
 have e3 : (.agg (pgL p os ol ot cs cl ct).toArray : Value) = .agg #[.slice os ns' cs, .slice ol p.locks.length cl, .slice ot ths.length ct] := by
  simp only [pgL, e1, e2]
 rw [e3]
 exact k.mono fun v w' ⟨hv, c⟩ => ⟨hv, c.mono fun k hk => hs.subset hk⟩

set_option maxHeartbeats 8000000 in
theorem lawPrettyOwn (p : Pg) (fr tn : Wd) (os ol ot : Option Addr) (cs cl ct : Nat) (w : World) (hSh : DcRow w (· < w.heap.size) os p.shared) (hL : DcRow w (· < w.heap.size) ol p.locks) (hT : ThRow w (· < w.heap.size) ot p.threads) (hok : OkP p) (hsg : Sig w) (hlen : (nmsP p).length ≤ 4398046511104) :
    Ret Tryz.prog 6 [.agg (pgL p os ol ot cs cl ct).toArray, str fr, str tn] w fun v w' => v = .bool true ∧ Chg [] w w' := by
 refine ret_of [_, _, _] func6 rfl ntmps6 rfl ?_
 have st := St.init w []
 obtain ⟨w0, rfl⟩ : ∃ w0, w0 = w := ⟨_, rfl⟩
 obtain ⟨q, y, hq⟩ : ∃ q y, renRes p fr tn = (q, y) := ⟨_, _, rfl⟩
 have hokq := renRes_ok hq hok
 have hoks : OkP (stripP p) := okP_tr (fun a _ => by unfold i64; simp [no0]) hok
 have hnl := namesL_len p
 have hnone := renRes_none hq
 refine vc_seq (vc_region ?_)
 refine vc_e (e_bx (l := [_, _, _]) st rfl rfl rfl rfl ?_)
 intro b3 w hb3 st
 refine ya ?_
 refine vc_end (vq_then (vk3 1 2 3 (vc_seq (vc_seq (vc_region ?_)))))
 refine vc_e (e_call [] rfl rfl call9 rfl (begins_any _ (hsg.kept st.chg)) ?_)
 rintro _ w ⟨rfl, cw⟩
 replace st := st.call0 cw
 refine vy (y_not rfl) ?_
 refine vc_end (vq_then (vk4 1 2 3 14 ?_))
 refine vc_ifs rfl ?_ ?_
 ·intro hc14
  exact absurd hc14 (by decide)
 ·intro hc14
  try simp only [dn] at hc14
  refine vc_code_skip (vq_then (vk3 1 2 3 (vc_seq (vc_region ?_))))
  refine yla st 0 [_, _, _] isAgg26 sizeOf26 ?_
  refine vc_e (e_call [_] rfl rfl call23 rfl (rcopyF_any p hok _ _ _ _ _ _ _ (RowC.mono (RowC.kept hSh (Same.of_nil st.chg)) (fun b hb => Nat.lt_of_lt_of_le hb st.chg.size)) (RowC.mono (RowC.kept hL (Same.of_nil st.chg)) (fun b hb => Nat.lt_of_lt_of_le hb st.chg.size)) ((hT.kept (Same.of_nil st.chg)).mono (fun b hb => Nat.lt_of_lt_of_le hb st.chg.size)) (Nat.le_refl _)) ?_)
  rintro _ w ⟨g1s, g1l, g1t, c1s, c1l, c1t, S1, rfl, hQ, hN, cw⟩
  have hN1 := hN.le st.chg.size
  replace st := St.pushR (r := .tree S1 (fun w => PgQ w p (pgL p g1s g1l g1t c1s c1l c1t) S1)) st cw (holds_of hQ hQ.lt (fun a b h hk => h.kept hk)) hN.2
  refine vc_e (e_al (l := [_, _, _]) st rfl rfl zeroValue26 rfl ?_)
  intro b7 w hb7 st
  refine vc_e (e_sts (vs := [_, _, _]) st 0 rfl rfl rfl rfl rfl sizeOf26 rfl rfl (by (right; assumption)) ?_)
  intro w st; dsimp only [setNth, wr] at st
  refine vc_end (vq_then (vk4 1 2 3 7 (vc_seq (vc_region ?_))))
  refine yla st 0 [_, _, _] isAgg26 sizeOf26 ?_
  refine vc_e (e_call [_] rfl rfl call24 rfl (strip_any p hok _ _ _ _ _ _ _ (pgQ_rows (st.res (i := 1) rfl).1).1 (pgQ_rows (st.res (i := 1) rfl).1).2.1 (pgQ_rows (st.res (i := 1) rfl).1).2.2 (Nat.le_refl _)) ?_)
  rintro _ w ⟨g2s, g2l, g2t, c2s, c2l, c2t, S2, rfl, hQ, hN, cw⟩
  have hN2 := hN.le st.chg.size
  replace st := St.pushR (r := .tree S2 (fun w => PgQ w (stripP p) (pgL (stripP p) g2s g2l g2t c2s c2l c2t) S2)) st cw (holds_of hQ hQ.lt (fun a b h hk => h.kept hk)) hN.2
  refine vc_e (e_al (l := [_, _, _]) st rfl rfl zeroValue26 rfl ?_)
  intro b8 w hb8 st
  refine vc_e (e_sts (vs := [_, _, _]) st 0 rfl rfl rfl rfl rfl sizeOf26 rfl rfl (by (right; assumption)) ?_)
  intro w st; dsimp only [setNth, wr] at st
  refine vc_end (vq_then (vk5 1 2 3 7 8 (vc_seq (vc_region ?_))))
  refine yla st 2 [_, _, _] isAgg26 sizeOf26 ?_
  iterate 2 refine ym ?_
  refine vc_e (e_call [_, _, _] rfl rfl call18 rfl (rename_any p hok fr tn _ _ _ _ _ _ _ (pgQ_rows (st.res (i := 3) rfl).1).1 (pgQ_rows (st.res (i := 3) rfl).1).2.1 (pgQ_rows (st.res (i := 3) rfl).1).2.2 (Nat.le_refl _) (hsg.kept st.chg) hlen) ?_)
  rintro _ w ⟨hR, cw⟩
  obtain ⟨g3s, g3l, g3t, c3s, c3l, c3t, S3, rfl, hQ, hN⟩ := RenV.uni hq hR
  replace st := St.pushR (r := .tree S3 (fun w => PgQ w q (pgL q g3s g3l g3t c3s c3l c3t) S3)) st cw (holds_of hQ hQ.lt (fun a b h hk => h.kept hk)) hN.2
  refine ym ?_
  iterate 2 refine vy (y_ext rfl rfl) ?_
  refine vc_e (e_al (l := [_, _, _]) st rfl rfl zeroValue26 rfl ?_)
  intro b9 w hb9 st
  refine vc_e (e_sts (vs := [_, _, _]) st 0 rfl rfl rfl rfl rfl sizeOf26 rfl rfl (by (right; assumption)) ?_)
  intro w st; dsimp only [setNth, wr] at st
  refine ya ?_
  refine vc_end (vq_then (vk5 3 7 8 9 10 (vc_seq (vc_region ?_))))
  refine yla st 2 [_, _, _] isAgg26 sizeOf26 ?_
  refine vc_e (e_call [_] rfl rfl call23 rfl (rcopyF_any (stripP p) hoks _ _ _ _ _ _ _ (pgQ_rows (st.res (i := 3) rfl).1).1 (pgQ_rows (st.res (i := 3) rfl).1).2.1 (pgQ_rows (st.res (i := 3) rfl).1).2.2 (Nat.le_refl _)) ?_)
  rintro _ w ⟨g4s, g4l, g4t, c4s, c4l, c4t, S4, rfl, hQ, hN, cw⟩
  have hN4 := hN.le st.chg.size
  replace st := St.pushR (r := .tree S4 (fun w => PgQ w (stripP p) (pgL (stripP p) g4s g4l g4t c4s c4l c4t) S4)) st cw (holds_of hQ hQ.lt (fun a b h hk => h.kept hk)) hN.2
  refine vc_e (e_al (l := [_, _, _]) st rfl rfl zeroValue26 rfl ?_)
  intro b11 w hb11 st
  refine vc_e (e_sts (vs := [_, _, _]) st 0 rfl rfl rfl rfl rfl sizeOf26 rfl rfl (by (right; assumption)) ?_)
  intro w st; dsimp only [setNth, wr] at st
  refine vc_end (vq_then (vk6 3 7 8 9 10 11 (vc_seq (vc_region ?_))))
  refine yla st 2 [_, _, _] isAgg26 sizeOf26 ?_
  refine vc_e (e_call [_] rfl rfl call23 rfl (rcopyF_any q hokq _ _ _ _ _ _ _ (pgQ_rows (st.res (i := 3) rfl).1).1 (pgQ_rows (st.res (i := 3) rfl).1).2.1 (pgQ_rows (st.res (i := 3) rfl).1).2.2 (Nat.le_refl _)) ?_)
  rintro _ w ⟨g5s, g5l, g5t, c5s, c5l, c5t, S5, rfl, hQ, hN, cw⟩
  have hN5 := hN.le st.chg.size
  replace st := St.pushR (r := .tree S5 (fun w => PgQ w q (pgL q g5s g5l g5t c5s c5l c5t) S5)) st cw (holds_of hQ hQ.lt (fun a b h hk => h.kept hk)) hN.2
  refine vc_e (e_al (l := [_, _, _]) st rfl rfl zeroValue26 rfl ?_)
  intro b12 w hb12 st
  refine vc_e (e_sts (vs := [_, _, _]) st 0 rfl rfl rfl rfl rfl sizeOf26 rfl rfl (by (right; assumption)) ?_)
  intro w st; dsimp only [setNth, wr] at st
  refine vc_end (vq_then (vk7 3 7 8 9 10 11 12 (vc_seq (vc_region ?_))))
  refine yla st 8 [_, _, _] isAgg26 sizeOf26 ?_
  refine vc_e (e_call [_] rfl rfl call25 rfl (spoilP_any p hok _ _ _ _ _ _ S1 _ (st.res (i := 9) rfl).1 hN1.1) ?_)
  rintro _ w ⟨rfl, cw⟩
  replace st := St.withinI st (i := 9) (fun _ => True) rfl cw (fun k hk => hk) (fun k hk => .inr (hN1.2 k hk)) trivial (loc_of fun _ _ h _ => h)
  dsimp only [setNth] at st
  refine vc_end (vq_then (vk6 3 8 9 10 11 12 (vc_seq ?_)))
  refine vc_draw Tryz.mixed [(0, true), (1, true), (2, false), (3, true), (4, true), (5, true), (6, false), (7, true), (8, true), (9, true), (11, true), (10, false), (12, false), (13, false), (14, true), (15, true), (16, true), (17, true), (18, true), (19, true), (20, true), (21, true), (22, true), (23, true), (24, true), (25, true)] (fun w => St _ _ [.blk b12 (.cells (pgL q g5s g5l g5t c5s c5l c5t).toArray 26 (0, 0)), .tree S5 (fun w => PgQ w q (pgL q g5s g5l g5t c5s c5l c5t) S5), .blk b11 (.cells (pgL (stripP p) g4s g4l g4t c4s c4l c4t).toArray 26 (0, 0)), .tree S4 (fun w => PgQ w (stripP p) (pgL (stripP p) g4s g4l g4t c4s c4l c4t) S4), .blk b9 (.cells (pgL q g3s g3l g3t c3s c3l c3t).toArray 26 (0, 0)), .tree S3 (fun w => PgQ w q (pgL q g3s g3l g3t c3s c3l c3t) S3), .blk b8 (.cells (pgL (stripP p) g2s g2l g2t c2s c2l c2t).toArray 26 (0, 0)), .tree S2 (fun w => PgQ w (stripP p) (pgL (stripP p) g2s g2l g2t c2s c2l c2t) S2), .blk b3 (.cells (pgL p os ol ot cs cl ct).toArray 26 (0, 0))] w) st.dr (by kernel_rfl) (by repeat (first | exact okQ_noPan | exact okQ_body | exact okQ_bodyS | refine okQ_then ?_ | refine okQ_block ?_)) rfl (by kernel_rfl) ?_
  intro w cd; replace st := st.call0 cd; clear cd
  have hS : St _ _ [.blk b12 (.cells (pgL q g5s g5l g5t c5s c5l c5t).toArray 26 (0, 0)), .tree S5 (fun w => PgQ w q (pgL q g5s g5l g5t c5s c5l c5t) S5), .blk b11 (.cells (pgL (stripP p) g4s g4l g4t c4s c4l c4t).toArray 26 (0, 0)), .tree S4 (fun w => PgQ w (stripP p) (pgL (stripP p) g4s g4l g4t c4s c4l c4t) S4), .blk b9 (.cells (pgL q g3s g3l g3t c3s c3l c3t).toArray 26 (0, 0)), .tree S3 (fun w => PgQ w q (pgL q g3s g3l g3t c3s c3l c3t) S3), .blk b8 (.cells (pgL (stripP p) g2s g2l g2t c2s c2l c2t).toArray 26 (0, 0)), .tree S2 (fun w => PgQ w (stripP p) (pgL (stripP p) g2s g2l g2t c2s c2l c2t) S2), .blk b3 (.cells (pgL p os ol ot cs cl ct).toArray 26 (0, 0))] w := st.dr
  refine vp_take rfl rfl rfl hS (fun w st => y_lda (vs := [_, _, _]) st 6 rfl isAgg26 sizeOf26 rfl rfl) ?_
  refine vp_take rfl rfl rfl hS (fun w st => y_lda (vs := [_, _, _]) st 2 rfl isAgg26 sizeOf26 rfl rfl) ?_
  refine vp_do rfl (e_call [_, _] rfl rfl call13 rfl (rexactly_any (S := fun _ => True) (stripP p) (stripP p) hoks _ _ _ _ _ _ _ _ _ _ _ _ _ (pgS_rows (st.res (i := 7) rfl).1).1 (pgS_rows (st.res (i := 7) rfl).1).2.1 (pgS_rows (st.res (i := 7) rfl).1).2.2 (pgS_rows (st.res (i := 3) rfl).1).1 (pgS_rows (st.res (i := 3) rfl).1).2.1 (pgS_rows (st.res (i := 3) rfl).1).2.2) ?_)
  rintro _ w ⟨rfl, cw⟩
  replace st := st.call0 cw
  rw [exactP_refl]
  refine vp_next st.dr ?_; intro hS
  refine vp_part rfl rfl rfl hS rfl ?_ ?_
  ·intro hg35
   try simp only [dn] at hg35
   refine vp_take rfl rfl rfl hS (fun w st => y_lda (vs := [_, _, _]) st 4 rfl isAgg26 sizeOf26 rfl rfl) ?_
   refine vp_take rfl rfl rfl hS (fun w st => y_lda (vs := [_, _, _]) st 0 rfl isAgg26 sizeOf26 rfl rfl) ?_
   refine vp_do rfl (e_call [_, _] rfl rfl call13 rfl (rexactly_any (S := fun _ => True) q q hokq _ _ _ _ _ _ _ _ _ _ _ _ _ (pgS_rows (st.res (i := 5) rfl).1).1 (pgS_rows (st.res (i := 5) rfl).1).2.1 (pgS_rows (st.res (i := 5) rfl).1).2.2 (pgS_rows (st.res (i := 1) rfl).1).1 (pgS_rows (st.res (i := 1) rfl).1).2.1 (pgS_rows (st.res (i := 1) rfl).1).2.2) ?_)
   rintro _ w ⟨rfl, cw⟩
   replace st := st.call0 cw
   rw [exactP_refl]
   refine vp_next st.dr ?_; intro hS
   refine vp_take rfl rfl rfl hS (fun w st => y_pickt rfl rfl) ?_
   refine vp_part rfl rfl rfl hS rfl ?_ ?_
   ·intro hg40
    try simp only [dn] at hg40
    refine vp_take rfl rfl rfl hS (fun w st => y_lda (vs := [_, _, _]) st 8 rfl isAgg26 sizeOf26 rfl rfl) ?_
    refine vp_take rfl rfl rfl hS (fun w st => y_lda (vs := [_, _, _]) st 2 rfl isAgg26 sizeOf26 rfl rfl) ?_
    refine vp_do rfl (e_call [_] rfl rfl call21 rfl (names_any (S := (· < w0.heap.size)) p hok _ _ _ _ _ _ _ (fun b hb => Nat.lt_of_lt_of_le hb st.chg.size) (RowC.kept hSh (Same.of_nil st.chg)) (RowC.kept hL (Same.of_nil st.chg)) (hT.kept (Same.of_nil st.chg)) hlen) ?_)
    rintro _ w ⟨on, cn, rfl, ho1, cw⟩
    have hv1 := SV.own ho1
    obtain ⟨wA, rfl⟩ : ∃ wA, wA = w := ⟨_, rfl⟩
    replace st := st.call0 cw
    refine vp_next st.dr ?_; intro hS
    refine vp_do rfl (e_call [_] rfl rfl call21 rfl (names_any (S := (· < wA.heap.size)) (stripP p) hoks _ _ _ _ _ _ _ (fun b hb => hb) (pgQ_rows (st.res (i := 3) rfl).1).1 (pgQ_rows (st.res (i := 3) rfl).1).2.1 (pgQ_rows (st.res (i := 3) rfl).1).2.2 (by rw [nmsP_tr, List.length_map]; exact hlen)) ?_)
    rintro _ w ⟨on2, cn2, rfl, ho2, cw⟩
    have hv2 := SV.own ho2
    replace hv1 := hv1.kept cw
    replace st := st.call0 cw
    rw [namesL_strip] at hv2 ⊢
    refine vp_next st.dr ?_; intro hS
    refine vp_do rfl (e_call [_, _] rfl rfl call20 rfl (Pq.rstrings_any _ _ _ _ _ hv1 hv2 (by omega) (by omega)) ?_)
    rintro _ w ⟨rfl, cw⟩
    replace st := st.call0 cw
    rw [decide_eq_true rfl]
    refine vp_next st.dr ?_; intro hS
    refine vp_take rfl rfl rfl hS (fun w st => y_pickt rfl rfl) ?_
    refine vp_part rfl rfl rfl hS rfl ?_ ?_
    ·intro hg47
     try simp only [dn] at hg47
     refine pm hS ?_
     refine vp_take rfl rfl rfl hS (fun w st => y_eqi rfl rfl) ?_
     refine vp_part rfl rfl rfl hS rfl ?_ ?_
     ·intro hg50
      try simp only [dn] at hg50
      iterate 4 refine vp_skip rfl rfl rfl hS ?_
      iterate 2 refine vp_take rfl rfl rfl hS (fun w st => y_pickt rfl rfl) ?_
      refine vp_take rfl rfl rfl hS (fun w st => y_as rfl) ?_
      refine vp_end (vq_then (vk1 6 (vc_ret ?_)))
      refine vq_ret1 st (.inl rfl) results6 (.tmp rfl) ?_
      refine ⟨_, rfl, ?_⟩
      refine ⟨?_, st.chg⟩
      rfl
     ·intro hg50
      try simp only [dn] at hg50
      refine pfz hS 2 underlying26 sizeOf24 ?_
      refine pld hS 4 isAgg24 ?_
      refine vp_take rfl rfl rfl hS (fun w st => y_lensl rfl underlying24) ?_
      refine vp_take rfl rfl rfl hS (fun w st => y_eqi rfl rfl) ?_
      refine vp_take rfl rfl rfl hS (fun w st => y_pickf rfl rfl) ?_
      refine vp_take rfl rfl rfl hS (fun w st => y_pickt rfl rfl) ?_
      refine vp_take rfl rfl rfl hS (fun w st => y_as rfl) ?_
      refine vp_end (vq_then (vk1 6 (vc_ret ?_)))
      refine vq_ret1 st (.inl rfl) results6 (.tmp rfl) ?_
      refine ⟨_, rfl, ?_⟩
      refine ⟨?_, st.chg⟩
      (rcases hnone with h | h; (exact absurd h (by assumption)); (simp [h]))
    ·intro hg47
     exact absurd hg47 (by simp)
   ·intro hg40
    exact absurd hg40 (by simp)
  ·intro hg35
   exact absurd hg35 (by simp)

end Go.Proofs.YtnmhlpnapgojjaaGreatDoor


/- How many names a tree has, by its size: no program in sight. -/
namespace LexS
open Sx
theorem nE_len : ∀ (n : Nat) (e : Ex), SizeOf.sizeOf e = n → (nmsE e).length ≤ szE e := by
  intro n
  refine Nat.strongRecOn n fun n ih e hn => ?_
  subst hn
  have key : ∀ l : List Ex, (∀ x ∈ l, (nmsE x).length ≤ szE x) → (nmsEs l).length ≤ szEs l := fun l => by
    induction l with
    | nil => intro _; simp [nmsEs, szEs]
    | cons x r ih =>
      intro h
      have h1 := h x (by simp)
      have h2 := ih fun y hy => h y (by simp [hy])
      simp only [nmsEs, szEs, List.length_append]; omega
  have hk := key e.kids fun x hx => ih _ (memE_lt hx) x rfl
  cases e with
  | mk k op wd nm kids a =>
    simp only [Ex.kids] at hk
    simp only [nmsE, szE, List.length_append]
    split <;> simp <;> omega
theorem nEs_len (l : List Ex) : (nmsEs l).length ≤ szEs l := by
  induction l with
  | nil => simp [nmsEs, szEs]
  | cons x r ih => have := nE_len _ x rfl; simp only [nmsEs, szEs, List.length_append]; omega
mutual
theorem nS_len : ∀ s : Sm, (nmsS s).length ≤ 2 * szS s
  | .mk k nm other e body els a => by
    have h1 := nEs_len e
    have h2 := nSs_len body
    have h3 := nSs_len els
    simp only [nmsS, szS, List.length_append, List.length_cons, List.length_nil]; omega
termination_by structural s => s
theorem nSs_len : ∀ l : List Sm, (nmsSs l).length ≤ 2 * szSs l
  | [] => by simp [nmsSs, szSs]
  | s :: r => by
    have h1 := nS_len s
    have h2 := nSs_len r
    simp only [nmsSs, szSs, List.length_append]; omega
termination_by structural l => l
end
theorem nDs_len (l : List Dc) : (l.map (·.nm)).length ≤ szDs l := by
  induction l with
  | nil => simp [szDs]
  | cons x r ih => simp only [List.map_cons, List.length_cons, szDs]; omega
theorem nP_len (p : Pg) : (nmsP p).length ≤ 2 * szP p := by
  have h1 := nDs_len p.shared
  have h2 := nDs_len p.locks
  have h3 : ∀ l : List Th, (l.flatMap nmsT).length ≤ 2 * szTs l := fun l => by
    induction l with
    | nil => simp [szTs]
    | cons t r ih =>
      have h4 := nDs_len t.locals
      have h5 := nSs_len t.body
      simp only [List.flatMap_cons, List.length_append, nmsT, szTs, List.length_cons, List.length_nil]; omega
  have h4 := h3 p.threads
  simp only [nmsP, List.map_append, List.length_append, szP]; omega
end LexS

