/- A part of the proof: contracts of functions and plain laws; each theorem says its own conditions. -/
import Derived.Test.YtggnfanphcaamaaGreatDoorK8
import Derived.Test.YtggnfanphcaamaaGreatDoorK6
import Derived.Test.YtggnfanphcaamaaGreatDoorK2
namespace Go.Proofs.YtggnfanphcaamaaGreatDoor
open Go.RowKit Sx LexS ParS
set_option linter.unusedVariables false
set_option linter.unusedSimpArgs false
theorem holds_thr {base : Nat} {w : World} {oa : Option Addr} {cap : Nat} {es : List Th} {S : List Nat} (h : ThR 60 56 52 50 w oa cap es S) : (Res.tree S fun w => ThR 60 56 52 50 w oa cap es S).holds base w := holds_of h h.lt (fun a b h hk => h.kept hk)
/-- a program's value, its threads new -/
def HTs (sh lk : List Dc) (os ol : Option Addr) (cs cl : Nat) (w : World) (l : List Th) (v : Value) (w' : World) : Prop := ∃ ot ct Sq, v = .agg (pgC ⟨sh, lk, l⟩ os ol ot cs cl ct).toArray ∧ ThR 60 56 52 50 w' ot ct l Sq ∧ Nw w.heap.size Sq

set_option maxHeartbeats 2000000 in
theorem rthreads_any (n : Nat) (sh lk : List Dc) (os ol : Option Addr) (cs cl : Nat) (c : RCtx) (σ : RS) (hr : σ.r <:+ c.ts) (w : World) (hC : RCok c w) (hP : RAt c σ w) (hn : σ.r.length < n) : Ret Tryz.prog 34 [.pointer (some ⟨c.rb, 0, none⟩), .agg (pgC ⟨sh, lk, []⟩ os ol none cs cl 0).toArray] w (RRes c σ (thrAll c.e n) w (HTs sh lk os ol cs cl w)) := by
 refine ret_of [_, _] Tryz.func34 rfl Tryz.ntmps34 rfl ?_
  
 obtain ⟨w0, rfl⟩ : ∃ w0, w0 = w := ⟨_, rfl⟩
 have hP' := hP
 dsimp only [RAt, rcell] at hP
 have st := St.of1 [c.rb] hP
 have h20 := hC.len
 have hl := suf_len hr
 replace st := St.pushR (r := .tree [] (fun w => ThSs 60 56 52 w [] [] [])) st (Chg.refl _ _) (holds_thss (by simp [ThSs])) (by simp [Res.at?])
 replace st := st.ownNil 50 4
 refine vc_seq (vc_region ?_)
 refine vc_e (e_bx (l := [_, _, _]) st rfl rfl rfl rfl ?_)
 intro b3 w hb3 st
 refine vc_e (e_al (l := [_, _, _]) st rfl rfl Tryz.zeroValue25 rfl ?_)
 intro b4 w hb4 st
 refine vc_end (vq_then (vc_keep [(0, _), (3, _), (4, _)] ⟨rfl, rfl, rfl, trivial⟩ (vc_seq (vc_block ?_))))
 refine vc_loop (w0 := w0) (M := [c.rb]) (fun (y : (List Th × RS × Nat × Option Addr × Nat × List Value × List Nat)) => [(0, .pointer (some ⟨c.rb, 0, none⟩)), (3, .pointer (some ⟨b3, 0, none⟩)), (4, .pointer (some ⟨b4, 0, none⟩))]) (fun (y : (List Th × RS × Nat × Option Addr × Nat × List Value × List Nat)) => [.blk b3 (.cells [.slice os sh.length cs, .slice ol lk.length cl, .slice y.2.2.2.1 y.1.length y.2.2.2.2.1].toArray 25 (0, 0)), .own (.slice y.2.2.2.1 y.1.length y.2.2.2.2.1) 50 4 y.1.length y.2.2.2.2.2.1, .tree y.2.2.2.2.2.2 (fun w => ThSs 60 56 52 w y.1 y.2.2.2.2.2.1 y.2.2.2.2.2.2), .blk b4 (.cells [.slice none 0 0, .slice none 0 0, .slice none 0 0].toArray 25 (0, 0)), .blk c.rb (.cells (rcell c y.2.1).toArray c.T (0, 0))]) (fun (y : (List Th × RS × Nat × Option Addr × Nat × List Value × List Nat)) _ => y.2.1.r <:+ σ.r ∧ (y.2.1.ok → y.1.length + y.2.1.r.length ≤ σ.r.length ∧ y.2.1.r.length < y.2.2.1) ∧ Nw w0.heap.size y.2.2.2.2.2.2 ∧ run (thrAll c.e n) σ = addL y.1 (run (thrAll c.e y.2.2.1) y.2.1)) (fun (y : (List Th × RS × Nat × Option Addr × Nat × List Value × List Nat)) => RS.mu y.2.1) ([], σ, n, none, 0, [], []) ⟨rfl, rfl, rfl, trivial⟩ (st.pick [1, 2, 3, 0, 4] rfl (by decide)) ⟨List.suffix_refl _, fun _ => ⟨by simp, hn⟩, Nw.nil, (addL_nil _).symm⟩ ?_
 clear st
 rintro ⟨acc, σ1, k, ot, ct, xs, Sq⟩ w ⟨hsf1, hl1, hSq, hG⟩ st
 dsimp only at hsf1 hl1 hSq hG st
 have hrσ1 := hsf1.trans hr
 have h40 := suf_len hrσ1
 refine vc_seq (vc_seq ?_)
 refine vc_draw Tryz.mixed [(0, true), (1, false), (2, true), (3, true), (4, true), (5, true), (6, true), (7, true), (8, true), (9, true), (10, true), (11, true), (12, true), (13, true)] (fun w => St _ _ [.blk c.rb (.cells (rcell c σ1).toArray c.T (0, 0))] w) (by exact st.drop (by repeat (first | exact sl0 | apply sl1 | apply sl2))) (by kernel_rfl) (by repeat (first | exact okQ_noPan | exact okQ_body | exact okQ_bodyS | refine okQ_then ?_ | refine okQ_block ?_)) rfl (by kernel_rfl) ?_
 intro w cd; replace st := st.call0 cd; clear cd
 have hS : St _ _ [.blk c.rb (.cells (rcell c σ1).toArray c.T (0, 0))] w := (by exact st.drop (by repeat (first | exact sl0 | apply sl1 | apply sl2)))
 refine vp_take rfl rfl rfl hS (fun w st => y_mv rfl) ?_
 refine vp_do rfl (e_call [_] rfl rfl Tryz.call16 rfl (rok_any c σ1 hrσ1 _ (hC.k1 st.chg) (by exact st.res (i := 4) rfl)) ?_)
 rintro _ w ⟨rfl, cw⟩
 replace st := st.call0 cw
 refine vp_next (by exact st.drop (by repeat (first | exact sl0 | apply sl1 | apply sl2))) ?_; intro hS
 refine vp_part rfl rfl rfl hS rfl ?_ ?_
 ·
  intro hg10
  try simp only [dn] at hg10
  have ho : σ1.ok := by simpa using hg10
  obtain ⟨hl2, hk1⟩ := hl1 ho
  obtain ⟨k, rfl⟩ : ∃ j, k = j + 1 := ⟨k - 1, by omega⟩
  refine vp_take rfl rfl rfl hS (fun w st => y_mv rfl) ?_
  refine vp_take rfl rfl rfl hS (fun w st => y_nck rfl) ?_
  refine vp_take rfl rfl rfl hS (fun w st => (by exact y_faz (k := 1) rfl Tryz.underlying47 rfl rfl Tryz.sizeOf3 rfl)) ?_
  refine vp_take rfl rfl rfl hS (fun w st => (by exact y_ld st 0 rfl Tryz.isAgg3 rfl rfl)) ?_
  refine vp_take rfl rfl rfl hS (fun w st => y_mv rfl) ?_
  refine vp_take rfl rfl rfl hS (fun w st => y_nck rfl) ?_
  refine vp_take rfl rfl rfl hS (fun w st => y_fa0 rfl Tryz.underlying47 rfl rfl Tryz.sizeOf45 rfl) ?_
  refine vp_take rfl rfl rfl hS (fun w st => (by exact y_ld st 0 rfl Tryz.isAgg45 rfl rfl)) ?_
  refine vp_take rfl rfl rfl hS (fun w st => y_lensl rfl Tryz.underlying45) ?_
  refine vp_take rfl rfl rfl hS (fun w st => y_lss rfl rfl) ?_
  refine vp_take rfl rfl rfl hS (fun w st => y_pickt rfl rfl) ?_
  refine vp_end (vq_then (vc_keep [(0, _), (3, _), (4, _), (21, _)] ⟨rfl, rfl, rfl, rfl, trivial⟩ ?_))
  refine vc_ifs rfl ?_ ?_
  ·
   intro hc21
   try simp only [dn] at hc21
   have hne : σ1.r ≠ [] := by intro h0; rw [h0] at hc21; simp at hc21
   refine vc_code_skip (vq_then (vc_keep [(0, _), (3, _), (4, _)] ⟨rfl, rfl, rfl, trivial⟩ (vc_block (vc_seq (vc_region ?_)))))
   refine vc_y rfl rfl (y_mv rfl) ?_
   refine vc_e (e_call [_, _] rfl rfl Tryz.call52 rfl (rwant_any c wThread σ1 hrσ1 _ (hC.k1 st.chg) (by exact st.res (i := 4) rfl)) ?_)
   rintro _ w ⟨rfl, hP1, cw⟩
   replace st := St.prs (b := c.rb) st 4 rfl cw (.inl (.head _)) hP1
   dsimp only [setNth] at st
   obtain ⟨σ2, hσ2⟩ : ∃ x, wantR c.e wThread σ1 = x := ⟨_, rfl⟩
   rw [hσ2] at st
   have hsfσ2 : σ2.r <:+ σ1.r := by rw [← hσ2]; exact wantR_suf
   have hrσ2 := hsfσ2.trans hrσ1
   have hlσ2 := suf_len hsfσ2
   refine vc_end (vq_then (vc_keep [(0, _), (3, _), (4, _)] ⟨rfl, rfl, rfl, trivial⟩ (vc_seq (vc_region ?_))))
   refine vc_y rfl rfl (y_mv rfl) ?_
   refine vc_e (e_call [_] rfl rfl Tryz.call49 rfl (rname_any c σ2 hrσ2 _ (hC.k1 st.chg) (by exact st.res (i := 4) rfl)) ?_)
   rintro _ w ⟨rfl, hP1, cw⟩
   replace st := St.prs (b := c.rb) st 4 rfl cw (.inl (.head _)) hP1
   dsimp only [setNth] at st
   obtain ⟨σ3, hσ3⟩ : ∃ x, nameR c.e σ2 = x := ⟨_, rfl⟩
   rw [hσ3] at st
   have hsfσ3 : σ3.r <:+ σ2.r := by rw [← hσ3]; exact nameR_suf
   have hrσ3 := hsfσ3.trans hrσ2
   have hlσ3 := suf_len hsfσ3
   refine vc_y rfl rfl (y_mv rfl) ?_
   iterate 2 refine vc_y rfl rfl (y_ext rfl rfl) ?_
   iterate 2 refine vc_y rfl rfl (y_as rfl) ?_
   refine vc_end (vq_then (vc_keep [(0, _), (3, _), (4, _), (5, _), (6, _)] ⟨rfl, rfl, rfl, rfl, rfl, trivial⟩ (vc_seq (vc_region ?_))))
   iterate 2 refine vc_y rfl rfl (y_mv rfl) ?_
   refine vc_y rfl rfl (y_bld (.agg #[_, _, _, _]) [(0, _), (3, _)] rfl (fun w => by simp [Instr.build, go_sem] <;> repeat' constructor)) ?_
   refine vc_e (e_al (l := [_, _, _, _]) st rfl rfl Tryz.zeroValue50 rfl ?_)
   intro b7 w hb7 st
   refine vc_e (e_sts (vs := [_, _, _, _]) st 0 rfl rfl rfl rfl rfl Tryz.sizeOf50 rfl rfl (by first | (right; assumption) | (left; simp)) ?_)
   intro w st; dsimp only [setNth, wr] at st
   refine vc_end (vq_then (vc_keep [(0, _), (3, _), (4, _), (7, _)] ⟨rfl, rfl, rfl, rfl, trivial⟩ (vc_seq (vc_region ?_))))
   replace st := st.ownNil 52 3
   refine vc_y rfl rfl (y_mv rfl) ?_
   refine vc_e (e_call [_, _] rfl rfl Tryz.call52 rfl (rwant_any c [123] σ3 hrσ3 _ (hC.k1 st.chg) (by exact st.res (i := 6) rfl)) ?_)
   rintro _ w ⟨rfl, hP1, cw⟩
   replace st := St.prs (b := c.rb) st 6 rfl cw (.inl (.head _)) hP1
   dsimp only [setNth] at st
   obtain ⟨σ4, hσ4⟩ : ∃ x, wantR c.e [123] σ3 = x := ⟨_, rfl⟩
   rw [hσ4] at st
   have hsfσ4 : σ4.r <:+ σ3.r := by rw [← hσ4]; exact wantR_suf
   have hrσ4 := hsfσ4.trans hrσ3
   have hlσ4 := suf_len hsfσ4
   refine vc_end (vq_then (vc_keep [(0, _), (3, _), (4, _), (7, _)] ⟨rfl, rfl, rfl, rfl, trivial⟩ (vc_seq (vc_block ?_))))
   refine vc_loop (w0 := w0) (M := [c.rb]) (fun (z : (List Dc × RS × Nat × Option Addr × Nat)) => [(0, .pointer (some ⟨c.rb, 0, none⟩)), (3, .pointer (some ⟨b3, 0, none⟩)), (4, .pointer (some ⟨b4, 0, none⟩)), (7, .pointer (some ⟨b7, 0, none⟩))]) (fun (z : (List Dc × RS × Nat × Option Addr × Nat)) => [.blk b7 (.cells [str (nameT σ2), .slice z.2.2.2.1 z.1.length z.2.2.2.2, .slice none 0 0, .int .i64 (nameA σ2 : Int)].toArray 50 (0, 0)), .own (.slice z.2.2.2.1 z.1.length z.2.2.2.2) 52 3 z.1.length (z.1.flatMap dcL), .blk b3 (.cells [.slice os sh.length cs, .slice ol lk.length cl, .slice ot acc.length ct].toArray 25 (0, 0)), .own (.slice ot acc.length ct) 50 4 acc.length xs, .tree Sq (fun w => ThSs 60 56 52 w acc xs Sq), .blk b4 (.cells [.slice none 0 0, .slice none 0 0, .slice none 0 0].toArray 25 (0, 0)), .blk c.rb (.cells (rcell c z.2.1).toArray c.T (0, 0))]) (fun (z : (List Dc × RS × Nat × Option Addr × Nat)) _ => z.2.1.r <:+ σ4.r ∧ z.1.length ≤ 2097154 ∧ (z.2.1.ok → z.1.length + z.2.1.r.length ≤ σ4.r.length ∧ z.2.1.r.length < z.2.2.1) ∧ run (fun r => localsP c.e (r.length + 1) r) σ4 = addL z.1 (run (localsP c.e z.2.2.1) z.2.1)) (fun (z : (List Dc × RS × Nat × Option Addr × Nat)) => RS.mu z.2.1) ([], σ4, σ4.r.length + 1, none, 0) ⟨rfl, rfl, rfl, rfl, trivial⟩ (st.pick [1, 0, 2, 3, 4, 5, 6] rfl (by decide)) ⟨List.suffix_refl _, by simp, fun _ => ⟨by simp, by simp⟩, (addL_nil _).symm⟩ ?_
   clear st
   rintro ⟨lo, σ5, j, o, cc⟩ w ⟨hsfσ5, hlo, hl5, hG5⟩ st
   dsimp only at hsfσ5 hlo hl5 hG5 st
   have hrσ5 := hsfσ5.trans hrσ4
   have h45 := suf_len hrσ5
   refine vc_seq (vc_seq (vc_region ?_))
   refine vc_y rfl rfl (y_mv rfl) ?_
   refine vc_e (e_call [_, _] rfl rfl Tryz.call31 rfl (rtake_any c wLocal σ5 hrσ5 _ (hC.k1 st.chg) (by exact st.res (i := 6) rfl)) ?_)
   rintro _ w ⟨rfl, hP1, cw⟩
   replace st := St.prs (b := c.rb) st 6 rfl cw (.inl (.head _)) hP1
   dsimp only [setNth] at st
   refine vc_end (vq_then (vc_keep [(0, _), (3, _), (4, _), (7, _), (35, _)] ⟨rfl, rfl, rfl, rfl, rfl, trivial⟩ ?_))
   refine vc_ifs rfl ?_ ?_
   ·
    intro hc35
    try simp only [dn] at hc35
    have hT : takeB wLocal σ5 = true := hc35
    have ho5 := (takeB_pos hT).1
    obtain ⟨hl6, hj1⟩ := hl5 ho5
    obtain ⟨j, rfl⟩ : ∃ i, j = i + 1 := ⟨j - 1, by omega⟩
    have htl := tail_lt (isT_ne (takeB_pos hT).2)
    rw [takeR_pos hT] at st
    obtain ⟨σ6, hσ6⟩ : ∃ x, (RS.mk σ5.r.tail σ5.f) = x := ⟨_, rfl⟩
    rw [hσ6] at st
    have hsfσ6 : σ6.r <:+ σ5.r := by rw [← hσ6]; exact List.tail_suffix _
    have hrσ6 := hsfσ6.trans hrσ5
    have hl6b : σ6.r.length < σ5.r.length := by rw [← hσ6]; exact htl
    refine vc_code_skip (vq_then (vc_keep [(0, _), (3, _), (4, _), (7, _)] ⟨rfl, rfl, rfl, rfl, trivial⟩ (vc_block ?_)))
    refine vk_draw Tryz.mixed [(0, true), (2, true), (1, true), (3, false), (4, false), (5, true), (6, false)] 6 (fun w => St _ _ [.blk b7 (.cells [str (nameT σ2), .slice o lo.length cc, .slice none 0 0, .int .i64 (nameA σ2 : Int)].toArray 50 (0, 0))] w) (by exact st.drop (by repeat (first | exact sl0 | apply sl1 | apply sl2))) (by kernel_rfl) (by repeat (first | exact okQ_noPan | exact okQ_body | exact okQ_bodyS | refine okQ_then ?_ | refine okQ_block ?_)) rfl (by kernel_rfl) rfl ?_
    intro w cd; replace st := st.call0 cd; clear cd
    have hS : St _ _ [.blk b7 (.cells [str (nameT σ2), .slice o lo.length cc, .slice none 0 0, .int .i64 (nameA σ2 : Int)].toArray 50 (0, 0))] w := (by exact st.drop (by repeat (first | exact sl0 | apply sl1 | apply sl2)))
    refine vk_takeU rfl rfl rfl rfl (fun _ => hS) (fun w => (by exact y_faz (k := 1) rfl Tryz.underlying50 rfl rfl Tryz.sizeOf22 rfl)) ?_
    refine vk_takeU rfl rfl rfl rfl (fun _ => hS) (fun w => y_mv rfl) ?_
    refine vk_take rfl rfl rfl rfl hS (fun w st => (by exact y_ld st 0 rfl Tryz.isAgg22 rfl rfl)) ?_
    refine vk_do rfl rfl (e_call [_] rfl rfl Tryz.call33 rfl (rnames_any (σ5.r.length + 1) c σ6 hrσ6 _ (hC.k1 st.chg) (by exact st.res (i := 6) rfl) (by omega)) ?_)
    rintro _ w ⟨l, σ7, hD7, hsfσ7, hP1, cw, oD, cD, SD, rfl, hQ, hN, hll⟩
    have hNSD := hN.le st.chg.size
    replace st := St.prsT (b := c.rb) st 6 rfl cw (.inl (.head _)) hP1 (holds_dc hQ) hN.2
    dsimp only [setNth] at st
    have hrσ7 := hsfσ7.trans hrσ6
    have hl7 := suf_len hsfσ7
    rw [← hσ6] at hD7
    have hlen7 : σ7.ok → l.length + σ7.r.length ≤ σ6.r.length := fun h => by
     have := listP_len c.e _ declP_len _ _ _ _ (hD7.ok_inv h).2
     rw [← hσ6]; exact this
    refine vk_next (by exact st.drop (by repeat (first | exact sl0 | apply sl1 | apply sl2))) ?_; intro hS
    refine vk_do rfl rfl (e_appr (bytes := 32) (len' := (lo ++ l).length) (ys := (lo ++ l).flatMap dcL) st 2 rfl rfl rfl rfl rfl (dcr_rd (st.res (i := 0) rfl).1) Tryz.underlying22 Tryz.info52 rfl rfl rfl rfl rfl (dcs_len l) (dcs_one l) (by unfold maxLen; omega) (by omega) (by simp) (by simp) ?_)
    intro oaQ capQ w st; dsimp only [setNth] at st
    refine vk_next (by exact st.drop (by repeat (first | exact sl0 | apply sl1 | apply sl2))) ?_; intro hS
    refine vk_takeU rfl rfl rfl rfl (fun _ => hS) (fun w => (by exact y_faz (k := 1) rfl Tryz.underlying50 rfl rfl Tryz.sizeOf22 rfl)) ?_
    refine vk_do rfl rfl (e_st st 1 rfl rfl rfl rfl Tryz.sizeOf22 rfl rfl (by first | (right; assumption) | (left; simp)) ?_)
    intro w st; dsimp only [setNth, wr] at st
    refine vk_late ?_
    refine vk_end ?_
    refine vq_block ?_
    refine vq_again (lo ++ l, σ7, j, oaQ, capQ)  ⟨rfl, rfl, rfl, rfl, trivial⟩ (st.pick [1, 2, 3, 4, 5, 6, 7] rfl (by decide)) ?_ ?_
    ·
     exact ⟨(hsfσ7.trans hsfσ6).trans hsfσ5, by simp; omega, fun h => ⟨by have := hlen7 h; simp; omega, by dsimp only; omega⟩, hG5.trans (locals_more hT hD7)⟩
    ·
     unfold RS.mu; dsimp only; rw [if_pos ho5]; split <;> omega
   ·
    intro hc35
    try simp only [dn] at hc35
    have hF : takeB wLocal σ5 = false := hc35
    rw [takeR_neg hF] at st
    have hlocs : Done (run (fun r => localsP c.e (r.length + 1) r) σ4) lo σ5 := by
     rw [hG5]
     by_cases ho5 : σ5.ok
     ·
      obtain ⟨i, rfl⟩ : ∃ i, j = i + 1 := ⟨j - 1, by have := (hl5 ho5).2; omega⟩
      exact (locals_end hF).add_nil
     ·
      rw [run_bad ho5]; exact ⟨rfl, ho5⟩
    refine vc_exit (vq_then_exit (vq_then_exit (vq_block_exit (vq_then (vc_keep [(0, _), (3, _), (4, _), (7, _)] ⟨rfl, rfl, rfl, rfl, trivial⟩ (vc_seq (vc_region ?_)))))))
    refine vc_y rfl rfl (y_mv rfl) ?_
    refine vc_e (e_call [_, _] rfl rfl Tryz.call53 rfl (rstmts_any c σ5 hrσ5 _ (hC.k1 st.chg) (by exact st.res (i := 6) rfl)) ?_)
    rintro _ w ⟨b, σ8, hD8, hsfσ8, hP1, cw, ob, cb, Sb, rfl, hQ, hN⟩
    have hNSb := hN.le st.chg.size
    replace st := St.prsT (b := c.rb) st 6 rfl cw (.inl (.head _)) hP1 (holds_sm hQ) hN.2
    dsimp only [setNth] at st
    have hrσ8 := hsfσ8.trans hrσ5
    have hthr := thread_done (by rw [← hσ3] at hσ4; exact hσ4.symm) hlocs hD8
    have hl8 : σ8.ok → σ8.r.length < σ1.r.length := fun h => by
     have h1 := thread_len (hthr.ok_inv h).2
     omega
    refine vc_y rfl rfl ((by exact y_faz (k := 2) rfl Tryz.underlying50 rfl rfl Tryz.sizeOf48 rfl)) ?_
    refine vc_e (e_st st 1 rfl rfl rfl rfl Tryz.sizeOf48 rfl rfl (by first | (right; assumption) | (left; simp)) ?_)
    intro w st; dsimp only [setNth, wr] at st
    refine vc_end (vq_then (vc_keep [(0, _), (3, _), (4, _), (7, _)] ⟨rfl, rfl, rfl, rfl, trivial⟩ (vc_region ?_)))
    refine vc_y rfl rfl ((by exact y_faz (k := 2) rfl Tryz.underlying25 rfl rfl Tryz.sizeOf23 rfl)) ?_
    refine vc_y rfl rfl ((by exact y_ld st 3 rfl Tryz.isAgg23 rfl rfl)) ?_
    refine vc_y rfl rfl ((by exact y_lda (vs := [_, _, _, _]) st 1 rfl Tryz.isAgg50 Tryz.sizeOf50 rfl rfl)) ?_
    refine vc_e (e_bs1 (l := [_, _, _, _]) st rfl rfl rfl rfl Tryz.underlying23 Tryz.sizeOf50 rfl rfl rfl Tryz.zeroValue50 ?_)
    intro b48 w hb48 st
    refine vc_e (e_app (bytes := 72) st 5 0 rfl rfl rfl rfl rfl rfl Tryz.underlying23 Tryz.info50 rfl rfl rfl rfl rfl (by simp) rfl rfl (by unfold maxLen; omega) (by omega) ?_)
    intro oaQ capQ w st; dsimp only [setNth] at st
    have hown := st.ownNw (i := 3) rfl
    have hT1 : ThS 60 56 52 w ⟨nameT σ2, lo, b, (nameA σ2 : Int)⟩ (thC ⟨nameT σ2, lo, b, (nameA σ2 : Int)⟩ o ob cc cb) (obk o ++ Sb) := ⟨o, cc, ob, cb, obk o, Sb, rfl, ⟨hown.1, rfl⟩, (st.res (i := 1) rfl).1, rfl⟩
    have hNt := hown.2.app hNSb (fun b hb => st.ne (i := 3) (j := 1) (by decide) rfl rfl b (by simpa [Res.at?, obk_own] using hb))
    have hdis : ∀ b ∈ Sq, b ∉ obk o ++ Sb := fun b hb hb' => (List.mem_append.1 hb').elim (fun h => st.ne (i := 6) (j := 3) (by decide) rfl rfl b hb (by simpa [Res.at?, obk_own] using h)) (fun h => st.ne (i := 6) (j := 1) (by decide) rfl rfl b hb h)
    have hT2 := ThSs.snoc (st.res (i := 6) rfl).1 hT1
    have hN2 := hSq.app hNt hdis
    replace st := ((st.pick [6, 3, 1, 4, 5, 7, 8] rfl (by decide)).joinN 3 (q := .tree (Sq ++ (obk o ++ Sb)) fun w => ThSs 60 56 52 w (acc ++ [⟨nameT σ2, lo, b, (nameA σ2 : Int)⟩]) (xs ++ thC ⟨nameT σ2, lo, b, (nameA σ2 : Int)⟩ o ob cc cb) (Sq ++ (obk o ++ Sb))) (fun k hk => by
        rcases List.mem_append.1 hk with h | h
        · exact ⟨_, .head _, h⟩
        · rcases List.mem_append.1 h with h | h
          · exact ⟨_, .tail _ (.head _), by simpa [Res.at?, obk_own] using h⟩
          · exact ⟨_, .tail _ (.tail _ (.head _)), h⟩) (holds_thss hT2)).pick [1, 2, 0, 3, 4] rfl (by decide)
    refine vc_y rfl rfl ((by exact y_faz (k := 2) rfl Tryz.underlying25 rfl rfl Tryz.sizeOf23 rfl)) ?_
    refine vc_e (e_st st 0 rfl rfl rfl rfl Tryz.sizeOf23 rfl rfl (by first | (right; assumption) | (left; simp)) ?_)
    intro w st; dsimp only [setNth, wr] at st
    refine vc_end (vq_block ?_)
    refine vq_again (acc ++ [⟨nameT σ2, lo, b, (nameA σ2 : Int)⟩], σ8, k, oaQ, capQ, xs ++ thC ⟨nameT σ2, lo, b, (nameA σ2 : Int)⟩ o ob cc cb, Sq ++ (obk o ++ Sb))  ⟨rfl, rfl, rfl, trivial⟩ (by simpa using st) ?_ ?_
    ·
     exact ⟨hsfσ8.trans (hsfσ5.trans (hsfσ4.trans (hsfσ3.trans (hsfσ2.trans hsf1)))), fun h => ⟨by have := hl8 h; simp; omega, by have := hl8 h; dsimp only; omega⟩, hN2, hG.trans (thr_more ho hne (by rw [hσ2]; exact hthr))⟩
    ·
     unfold RS.mu; dsimp only; rw [if_pos ho]; split
     ·
      have := hl8 (by assumption); omega
     ·
      omega
  ·
   intro hc21
   try simp only [dn] at hc21
   have hnil : σ1.r = [] := List.eq_nil_of_length_eq_zero (by omega)
   refine vc_exit (vq_then_exit (vq_then_exit (vq_block_exit (vq_then (vc_keep [(3, _), (4, _)] ⟨rfl, rfl, trivial⟩ (vc_seq (vc_region ?_)))))))
   refine vc_y rfl rfl ((by exact y_lda (vs := [_, _, _]) st 0 rfl Tryz.isAgg25 Tryz.sizeOf25 rfl rfl)) ?_
   refine vc_e (e_sts (vs := [_, _, _]) st 3 rfl rfl rfl rfl rfl Tryz.sizeOf25 rfl rfl (by first | (right; assumption) | (left; simp)) ?_)
   intro w st; dsimp only [setNth, wr] at st
   refine vc_end (vq_then (vc_keep [(4, _)] ⟨rfl, trivial⟩ (vc_ret ?_)))
   refine vq_ret1 st (.inl rfl) Tryz.results34 (by exact .cell 3 rfl rfl Tryz.isAgg25 Tryz.sizeOf25) ?_
   refine ⟨_, rfl, ?_⟩
   have hown := st.ownNw (i := 1) rfl
   exact ⟨acc, σ1, by rw [hG]; exact (thr_end hnil).add_nil, hsf1, (by exact st.res (i := 4) rfl), st.chg, ot, ct, obk ot ++ Sq, rfl, ⟨xs, Sq, hown.1, rfl, (st.res (i := 2) rfl).1⟩, hown.2.app hSq (fun b hb => st.ne (i := 1) (j := 2) (by decide) rfl rfl b (by simpa [Res.at?, obk_own] using hb))⟩
 ·
  intro hg10
  try simp only [dn] at hg10
  have ho : ¬ σ1.ok := by simpa using hg10
  iterate 10 refine vp_skip rfl rfl rfl hS ?_
  refine vp_take rfl rfl rfl hS (fun w st => y_pickf rfl rfl) ?_
  refine vp_end (vq_then (vc_keep [(0, _), (3, _), (4, _), (21, _)] ⟨rfl, rfl, rfl, rfl, trivial⟩ ?_))
  refine vc_iff rfl ?_
  refine vc_exit (vq_then_exit (vq_then_exit (vq_block_exit (vq_then (vc_keep [(3, _), (4, _)] ⟨rfl, rfl, trivial⟩ (vc_seq (vc_region ?_)))))))
  refine vc_y rfl rfl ((by exact y_lda (vs := [_, _, _]) st 0 rfl Tryz.isAgg25 Tryz.sizeOf25 rfl rfl)) ?_
  refine vc_e (e_sts (vs := [_, _, _]) st 3 rfl rfl rfl rfl rfl Tryz.sizeOf25 rfl rfl (by first | (right; assumption) | (left; simp)) ?_)
  intro w st; dsimp only [setNth, wr] at st
  refine vc_end (vq_then (vc_keep [(4, _)] ⟨rfl, trivial⟩ (vc_ret ?_)))
  refine vq_ret1 st (.inl rfl) Tryz.results34 (by exact .cell 3 rfl rfl Tryz.isAgg25 Tryz.sizeOf25) ?_
  refine ⟨_, rfl, ?_⟩
  have hown := st.ownNw (i := 1) rfl
  exact ⟨acc, σ1, by rw [hG, run_bad ho]; exact ⟨rfl, ho⟩, hsf1, (by exact st.res (i := 4) rfl), st.chg, ot, ct, obk ot ++ Sq, rfl, ⟨xs, Sq, hown.1, rfl, (st.res (i := 2) rfl).1⟩, hown.2.app hSq (fun b hb => st.ne (i := 1) (j := 2) (by decide) rfl rfl b (by simpa [Res.at?, obk_own] using hb))⟩

set_option maxHeartbeats 2000000 in
theorem rprog_any (n : Nat) (c : RCtx) (σ : RS) (hr : σ.r <:+ c.ts) (w : World) (hC : RCok c w) (hP : RAt c σ w) (hn : σ.r.length < n) : Ret Tryz.prog 15 [.pointer (some ⟨c.rb, 0, none⟩)] w (RRes c σ (progR c.e n) w (HP w)) := by
 refine ret_of [_] Tryz.func15 rfl Tryz.ntmps15 rfl ?_
  
 obtain ⟨w0, rfl⟩ : ∃ w0, w0 = w := ⟨_, rfl⟩
 have hP' := hP
 dsimp only [RAt, rcell] at hP
 have st := St.of1 [c.rb] hP
 have h20 := hC.len
 have hl := suf_len hr
 replace st := (st.ownNil 52 3).ownNil 52 3
 refine vc_seq (vc_region ?_)
 refine vc_e (e_al (l := [_, _, _]) st rfl rfl Tryz.zeroValue25 rfl ?_)
 intro b2 w hb2 st
 refine vc_end (vq_then (vc_keep [(0, _), (2, _)] ⟨rfl, rfl, trivial⟩ (vc_seq (vc_region ?_))))
 refine vc_y rfl rfl (y_bld (.agg #[_, _, _]) [] rfl (fun w => by simp [Instr.build, go_sem] <;> repeat' constructor)) ?_
 refine vc_e (e_al (l := [_, _, _]) st rfl rfl Tryz.zeroValue25 rfl ?_)
 intro b3 w hb3 st
 refine vc_e (e_sts (vs := [_, _, _]) st 0 rfl rfl rfl rfl rfl Tryz.sizeOf25 rfl rfl (by first | (right; assumption) | (left; simp)) ?_)
 intro w st; dsimp only [setNth, wr] at st
 refine vc_end (vq_then (vc_keep [(0, _), (2, _), (3, _)] ⟨rfl, rfl, rfl, trivial⟩ (vc_seq (vc_block ?_))))
 refine vc_loop (w0 := w0) (M := [c.rb]) (fun (y : (List Dc × List Dc × RS × Nat × Option Addr × Nat × Option Addr × Nat)) => [(0, .pointer (some ⟨c.rb, 0, none⟩)), (2, .pointer (some ⟨b2, 0, none⟩)), (3, .pointer (some ⟨b3, 0, none⟩))]) (fun (y : (List Dc × List Dc × RS × Nat × Option Addr × Nat × Option Addr × Nat)) => [.blk b3 (.cells [.slice y.2.2.2.2.1 y.1.length y.2.2.2.2.2.1, .slice y.2.2.2.2.2.2.1 y.2.1.length y.2.2.2.2.2.2.2, .slice none 0 0].toArray 25 (0, 0)), .own (.slice y.2.2.2.2.1 y.1.length y.2.2.2.2.2.1) 52 3 y.1.length (y.1.flatMap dcL), .own (.slice y.2.2.2.2.2.2.1 y.2.1.length y.2.2.2.2.2.2.2) 52 3 y.2.1.length (y.2.1.flatMap dcL), .blk b2 (.cells [.slice none 0 0, .slice none 0 0, .slice none 0 0].toArray 25 (0, 0)), .blk c.rb (.cells (rcell c y.2.2.1).toArray c.T (0, 0))]) (fun (y : (List Dc × List Dc × RS × Nat × Option Addr × Nat × Option Addr × Nat)) _ => y.2.2.1.r <:+ σ.r ∧ (y.2.2.1.ok → y.1.length + y.2.1.length + y.2.2.1.r.length ≤ σ.r.length ∧ y.2.2.1.r.length < y.2.2.2.1) ∧ run (progR c.e n) σ = addG y.1 y.2.1 (run (progR c.e y.2.2.2.1) y.2.2.1)) (fun (y : (List Dc × List Dc × RS × Nat × Option Addr × Nat × Option Addr × Nat)) => y.2.2.1.r.length) ([], [], σ, n, none, 0, none, 0) ⟨rfl, rfl, rfl, trivial⟩ (st.pick [0, 2, 3, 1, 4] rfl (by decide)) ⟨List.suffix_refl _, fun _ => ⟨by simp, hn⟩, (addG_nil _).symm⟩ ?_
 clear st
 rintro ⟨sh, lk, σ1, k, os, cs, ol, cl⟩ w ⟨hsf1, hl1, hG⟩ st
 dsimp only at hsf1 hl1 hG st
 have hrσ1 := hsf1.trans hr
 have h40 := suf_len hrσ1
 refine vc_seq (vc_seq (vc_region ?_))
 refine vc_y rfl rfl (y_mv rfl) ?_
 refine vc_e (e_call [_] rfl rfl Tryz.call16 rfl (rok_any c σ1 hrσ1 _ (hC.k1 st.chg) (by exact st.res (i := 4) rfl)) ?_)
 rintro _ w ⟨rfl, cw⟩
 replace st := st.call0 cw
 refine vc_end (vq_then (vc_keep [(0, _), (2, _), (3, _), (6, _)] ⟨rfl, rfl, rfl, rfl, trivial⟩ ?_))
 refine vc_ifs rfl ?_ ?_
 ·
  intro hc6
  try simp only [dn] at hc6
  have ho : σ1.ok := by simpa using hc6
  obtain ⟨hl2, hk1⟩ := hl1 ho
  obtain ⟨k, rfl⟩ : ∃ j, k = j + 1 := ⟨k - 1, by omega⟩
  refine vc_code_skip (vq_then (vc_keep [(0, _), (2, _), (3, _)] ⟨rfl, rfl, rfl, trivial⟩ (vc_block (vc_block (vc_seq (vc_region ?_))))))
  refine vc_y rfl rfl (y_mv rfl) ?_
  refine vc_e (e_call [_, _] rfl rfl Tryz.call31 rfl (rtake_any c wShared σ1 hrσ1 _ (hC.k1 st.chg) (by exact st.res (i := 4) rfl)) ?_)
  rintro _ w ⟨rfl, hP1, cw⟩
  replace st := St.prs (b := c.rb) st 4 rfl cw (.inl (.head _)) hP1
  dsimp only [setNth] at st
  refine vc_y rfl rfl (y_as rfl) ?_
  refine vc_end (vq_then (vc_keep [(0, _), (2, _), (3, _), (10, _)] ⟨rfl, rfl, rfl, rfl, trivial⟩ ?_))
  refine vc_ifs rfl ?_ ?_
  ·
   intro hc10
   try simp only [dn] at hc10
   have hT1 : takeB wShared σ1 = true := hc10
   have htl := tail_lt (isT_ne (takeB_pos hT1).2)
   rw [takeR_pos hT1] at st
   obtain ⟨σ6, hσ6⟩ : ∃ x, (RS.mk σ1.r.tail σ1.f) = x := ⟨_, rfl⟩
   rw [hσ6] at st
   have hsfσ6 : σ6.r <:+ σ1.r := by rw [← hσ6]; exact List.tail_suffix _
   have hrσ6 := hsfσ6.trans hrσ1
   have hl6 : σ6.r.length < σ1.r.length := by rw [← hσ6]; exact htl
   refine vk_draw Tryz.mixed [(0, true), (2, true), (1, true), (3, false), (4, false), (5, true), (6, false)] 6 (fun w => St _ _ [.blk b3 (.cells [.slice os sh.length cs, .slice ol lk.length cl, .slice none 0 0].toArray 25 (0, 0))] w) (by exact st.drop (by repeat (first | exact sl0 | apply sl1 | apply sl2))) (by kernel_rfl) (by repeat (first | exact okQ_noPan | exact okQ_body | exact okQ_bodyS | refine okQ_then ?_ | refine okQ_block ?_)) rfl (by kernel_rfl) rfl ?_
   intro w cd; replace st := st.call0 cd; clear cd
   have hS : St _ _ [.blk b3 (.cells [.slice os sh.length cs, .slice ol lk.length cl, .slice none 0 0].toArray 25 (0, 0))] w := (by exact st.drop (by repeat (first | exact sl0 | apply sl1 | apply sl2)))
   refine vk_takeU rfl rfl rfl rfl (fun _ => hS) (fun w => y_fa0 rfl Tryz.underlying25 rfl rfl Tryz.sizeOf22 rfl) ?_
   refine vk_takeU rfl rfl rfl rfl (fun _ => hS) (fun w => y_mv rfl) ?_
   refine vk_take rfl rfl rfl rfl hS (fun w st => (by exact y_ld st 0 rfl Tryz.isAgg22 rfl rfl)) ?_
   refine vk_do rfl rfl (e_call [_] rfl rfl Tryz.call32 rfl (rshared_any (σ1.r.length + 1) c σ6 hrσ6 _ (hC.k1 st.chg) (by exact st.res (i := 4) rfl) (by omega)) ?_)
   rintro _ w ⟨l, σ7, hD7, hsfσ7, hP1, cw, oD, cD, SD, rfl, hQ, hN, hll⟩
   have hNSD := hN.le st.chg.size
   replace st := St.prsT (b := c.rb) st 4 rfl cw (.inl (.head _)) hP1 (holds_dc hQ) hN.2
   dsimp only [setNth] at st
   have hrσ7 := hsfσ7.trans hrσ6
   have hl7 := suf_len hsfσ7
   rw [← hσ6] at hD7
   have hlen7 : σ7.ok → l.length + σ7.r.length ≤ σ6.r.length := fun h => by
    have := listP_len c.e _ initP_len _ _ _ _ (hD7.ok_inv h).2
    rw [← hσ6]; exact this
   refine vk_next (by exact st.drop (by repeat (first | exact sl0 | apply sl1 | apply sl2))) ?_; intro hS
   refine vk_do rfl rfl (e_appr (bytes := 32) (len' := (sh ++ l).length) (ys := (sh ++ l).flatMap dcL) st 2 rfl rfl rfl rfl rfl (dcr_rd (st.res (i := 0) rfl).1) Tryz.underlying22 Tryz.info52 rfl rfl rfl rfl rfl (dcs_len l) (dcs_one l) (by unfold maxLen; omega) (by omega) (by simp) (by simp) ?_)
   intro oaQ capQ w st; dsimp only [setNth] at st
   refine vk_next (by exact st.drop (by repeat (first | exact sl0 | apply sl1 | apply sl2))) ?_; intro hS
   refine vk_takeU rfl rfl rfl rfl (fun _ => hS) (fun w => y_fa0 rfl Tryz.underlying25 rfl rfl Tryz.sizeOf22 rfl) ?_
   refine vk_do rfl rfl (e_st st 1 rfl rfl rfl rfl Tryz.sizeOf22 rfl rfl (by first | (right; assumption) | (left; simp)) ?_)
   intro w st; dsimp only [setNth, wr] at st
   refine vk_late ?_
   refine vk_end ?_
   refine vq_block (vq_block ?_)
   refine vq_again (sh ++ l, lk, σ7, k, oaQ, capQ, ol, cl)  ⟨rfl, rfl, rfl, trivial⟩ (st.pick [1, 2, 3, 4, 5] rfl (by decide)) ?_ ?_
   ·
    exact ⟨(hsfσ7.trans hsfσ6).trans hsf1, fun h => ⟨by have := hlen7 h; simp; omega, by dsimp only; omega⟩, hG.trans (prog_sh hT1 hD7)⟩
   ·
    dsimp only; omega
  ·
   intro hc10
   try simp only [dn] at hc10
   have hF1 : takeB wShared σ1 = false := hc10
   rw [takeR_neg hF1] at st
   refine vc_seq (vc_region ?_)
   refine vc_y rfl rfl (y_mv rfl) ?_
   refine vc_e (e_call [_, _] rfl rfl Tryz.call31 rfl (rtake_any c wLock σ1 hrσ1 _ (hC.k1 st.chg) (by exact st.res (i := 4) rfl)) ?_)
   rintro _ w ⟨rfl, hP1, cw⟩
   replace st := St.prs (b := c.rb) st 4 rfl cw (.inl (.head _)) hP1
   dsimp only [setNth] at st
   refine vc_y rfl rfl (y_as rfl) ?_
   refine vc_end (vq_then (vc_keep [(0, _), (2, _), (3, _), (19, _)] ⟨rfl, rfl, rfl, rfl, trivial⟩ ?_))
   refine vc_ifs rfl ?_ ?_
   ·
    intro hc19
    try simp only [dn] at hc19
    have hT2 : takeB wLock σ1 = true := hc19
    have htl := tail_lt (isT_ne (takeB_pos hT2).2)
    rw [takeR_pos hT2] at st
    obtain ⟨σ6, hσ6⟩ : ∃ x, (RS.mk σ1.r.tail σ1.f) = x := ⟨_, rfl⟩
    rw [hσ6] at st
    have hsfσ6 : σ6.r <:+ σ1.r := by rw [← hσ6]; exact List.tail_suffix _
    have hrσ6 := hsfσ6.trans hrσ1
    have hl6 : σ6.r.length < σ1.r.length := by rw [← hσ6]; exact htl
    refine vk_draw Tryz.mixed [(0, true), (2, true), (1, true), (3, false), (4, false), (5, true), (6, false)] 6 (fun w => St _ _ [.blk b3 (.cells [.slice os sh.length cs, .slice ol lk.length cl, .slice none 0 0].toArray 25 (0, 0))] w) (by exact st.drop (by repeat (first | exact sl0 | apply sl1 | apply sl2))) (by kernel_rfl) (by repeat (first | exact okQ_noPan | exact okQ_body | exact okQ_bodyS | refine okQ_then ?_ | refine okQ_block ?_)) rfl (by kernel_rfl) rfl ?_
    intro w cd; replace st := st.call0 cd; clear cd
    have hS : St _ _ [.blk b3 (.cells [.slice os sh.length cs, .slice ol lk.length cl, .slice none 0 0].toArray 25 (0, 0))] w := (by exact st.drop (by repeat (first | exact sl0 | apply sl1 | apply sl2)))
    refine vk_takeU rfl rfl rfl rfl (fun _ => hS) (fun w => (by exact y_faz (k := 1) rfl Tryz.underlying25 rfl rfl Tryz.sizeOf22 rfl)) ?_
    refine vk_takeU rfl rfl rfl rfl (fun _ => hS) (fun w => y_mv rfl) ?_
    refine vk_take rfl rfl rfl rfl hS (fun w st => (by exact y_ld st 0 rfl Tryz.isAgg22 rfl rfl)) ?_
    refine vk_do rfl rfl (e_call [_] rfl rfl Tryz.call33 rfl (rnames_any (σ1.r.length + 1) c σ6 hrσ6 _ (hC.k1 st.chg) (by exact st.res (i := 4) rfl) (by omega)) ?_)
    rintro _ w ⟨l, σ7, hD7, hsfσ7, hP1, cw, oD, cD, SD, rfl, hQ, hN, hll⟩
    have hNSD := hN.le st.chg.size
    replace st := St.prsT (b := c.rb) st 4 rfl cw (.inl (.head _)) hP1 (holds_dc hQ) hN.2
    dsimp only [setNth] at st
    have hrσ7 := hsfσ7.trans hrσ6
    have hl7 := suf_len hsfσ7
    rw [← hσ6] at hD7
    have hlen7 : σ7.ok → l.length + σ7.r.length ≤ σ6.r.length := fun h => by
     have := listP_len c.e _ declP_len _ _ _ _ (hD7.ok_inv h).2
     rw [← hσ6]; exact this
    refine vk_next (by exact st.drop (by repeat (first | exact sl0 | apply sl1 | apply sl2))) ?_; intro hS
    refine vk_do rfl rfl (e_appr (bytes := 32) (len' := (lk ++ l).length) (ys := (lk ++ l).flatMap dcL) st 3 rfl rfl rfl rfl rfl (dcr_rd (st.res (i := 0) rfl).1) Tryz.underlying22 Tryz.info52 rfl rfl rfl rfl rfl (dcs_len l) (dcs_one l) (by unfold maxLen; omega) (by omega) (by simp) (by simp) ?_)
    intro oaQ capQ w st; dsimp only [setNth] at st
    refine vk_next (by exact st.drop (by repeat (first | exact sl0 | apply sl1 | apply sl2))) ?_; intro hS
    refine vk_takeU rfl rfl rfl rfl (fun _ => hS) (fun w => (by exact y_faz (k := 1) rfl Tryz.underlying25 rfl rfl Tryz.sizeOf22 rfl)) ?_
    refine vk_do rfl rfl (e_st st 1 rfl rfl rfl rfl Tryz.sizeOf22 rfl rfl (by first | (right; assumption) | (left; simp)) ?_)
    intro w st; dsimp only [setNth, wr] at st
    refine vk_late ?_
    refine vk_end ?_
    refine vq_block (vq_block ?_)
    refine vq_again (sh, lk ++ l, σ7, k, os, cs, oaQ, capQ)  ⟨rfl, rfl, rfl, trivial⟩ (st.pick [1, 2, 3, 4, 5] rfl (by decide)) ?_ ?_
    ·
     exact ⟨(hsfσ7.trans hsfσ6).trans hsf1, fun h => ⟨by have := hlen7 h; simp; omega, by dsimp only; omega⟩, hG.trans (prog_lk hF1 hT2 hD7)⟩
    ·
     dsimp only; omega
   ·
    intro hc19
    try simp only [dn] at hc19
    have hF2 : takeB wLock σ1 = false := hc19
    rw [takeR_neg hF2] at st
    refine vc_seq (vc_region ?_)
    refine vc_y rfl rfl (y_mv rfl) ?_
    refine vc_y rfl rfl ((by exact y_lda (vs := [_, _, _]) st 0 rfl Tryz.isAgg25 Tryz.sizeOf25 rfl rfl)) ?_
    refine vc_e (e_call [_, _] rfl rfl Tryz.call34 rfl (rthreads_any (σ1.r.length + 1) sh lk os ol cs cl c σ1 hrσ1 _ (hC.k1 st.chg) (by exact st.res (i := 4) rfl) (by omega)) ?_)
    rintro _ w ⟨l, σ7, hD7, hsfσ7, hP1, cw, ot, ct, Sq, rfl, hQ, hN⟩
    have hNSq := hN.le st.chg.size
    replace st := St.prsT (b := c.rb) st 4 rfl cw (.inl (.head _)) hP1 (holds_thr hQ) hN.2
    dsimp only [setNth] at st
    refine vc_e (e_sts (vs := [_, _, _]) st 4 rfl rfl rfl rfl rfl Tryz.sizeOf25 rfl rfl (by first | (right; assumption) | (left; simp)) ?_)
    intro w st; dsimp only [setNth, wr] at st
    refine vc_end (vq_then (vc_keep [(2, _)] ⟨rfl, trivial⟩ (vc_ret (vq_block_ret (vq_block_ret (vq_then_ret (vq_block_ret (vq_then_ret ?_))))))))
    refine vq_ret1 st (.inl rfl) Tryz.results15 (by exact .cell 4 rfl rfl Tryz.isAgg25 Tryz.sizeOf25) ?_
    refine ⟨_, rfl, ?_⟩
    have o1 := st.ownNw (i := 2) rfl
    have o2 := st.ownNw (i := 3) rfl
    have d12 : ∀ k ∈ obk os, k ∉ obk ol := fun k hk hk' => st.ne (i := 2) (j := 3) (by decide) rfl rfl k (by simpa [Res.at?, obk_own] using hk) (by simpa [Res.at?, obk_own] using hk')
    have d14 : ∀ k ∈ obk os, k ∉ Sq := fun k hk => st.ne (i := 2) (j := 0) (by decide) rfl rfl k (by simpa [Res.at?, obk_own] using hk)
    have d24 : ∀ k ∈ obk ol, k ∉ Sq := fun k hk => st.ne (i := 3) (j := 0) (by decide) rfl rfl k (by simpa [Res.at?, obk_own] using hk)
    exact ⟨⟨sh, lk, l⟩, σ7, by rw [hG]; exact prog_th hF1 hF2 hD7, hsfσ7.trans hsf1, (by exact st.res (i := 5) rfl), st.chg, os, ol, ot, cs, cl, ct, obk os ++ (obk ol ++ Sq), rfl, ⟨os, cs, ol, cl, ot, ct, obk os, obk ol, Sq, rfl, ⟨o1.1, rfl⟩, ⟨o2.1, rfl⟩, (st.res (i := 0) rfl).1, rfl⟩,
      o1.2.app (o2.2.app hNSq d24) (fun b hb hb' => (List.mem_append.1 hb').elim (d12 b hb) (d14 b hb))⟩
 ·
  intro hc6
  try simp only [dn] at hc6
  have ho : ¬ σ1.ok := by simpa using hc6
  refine vc_exit (vq_then_exit (vq_then_exit (vq_block_exit (vq_then (vc_keep [(2, _), (3, _)] ⟨rfl, rfl, trivial⟩ (vc_seq (vc_region ?_)))))))
  refine vc_y rfl rfl ((by exact y_lda (vs := [_, _, _]) st 0 rfl Tryz.isAgg25 Tryz.sizeOf25 rfl rfl)) ?_
  refine vc_e (e_sts (vs := [_, _, _]) st 3 rfl rfl rfl rfl rfl Tryz.sizeOf25 rfl rfl (by first | (right; assumption) | (left; simp)) ?_)
  intro w st; dsimp only [setNth, wr] at st
  refine vc_end (vq_then (vc_keep [(2, _)] ⟨rfl, trivial⟩ (vc_ret ?_)))
  refine vq_ret1 st (.inl rfl) Tryz.results15 (by exact .cell 3 rfl rfl Tryz.isAgg25 Tryz.sizeOf25) ?_
  refine ⟨_, rfl, ?_⟩
  have o1 := st.ownNw (i := 1) rfl
  have o2 := st.ownNw (i := 2) rfl
  have d12 : ∀ k ∈ obk os, k ∉ obk ol := fun k hk hk' => st.ne (i := 1) (j := 2) (by decide) rfl rfl k (by simpa [Res.at?, obk_own] using hk) (by simpa [Res.at?, obk_own] using hk')
  exact ⟨⟨sh, lk, []⟩, σ1, by rw [hG]; exact prog_bad ho _, hsf1, (by exact st.res (i := 4) rfl), st.chg, os, ol, none, cs, cl, 0, obk os ++ (obk ol ++ []), rfl, ⟨os, cs, ol, cl, none, 0, obk os, obk ol, [], rfl, ⟨o1.1, rfl⟩, ⟨o2.1, rfl⟩, ⟨[], [], World.ownsRow_nil _ _ _ _, rfl, rfl, rfl⟩, rfl⟩,
    by rw [List.append_nil]; exact o1.2.app o2.2 d12⟩

end Go.Proofs.YtggnfanphcaamaaGreatDoor


namespace Go.Proofs.YtggnfanphcaamaaGreatDoor
open Go.RowKit Sx LexS _root_.Go.Proofs.Tryz
set_option linter.unusedVariables false
set_option linter.unusedSimpArgs false

set_option maxHeartbeats 1000000 in
theorem word_any (l : List UInt8) (w : World) : Ret Tryz.prog 71 [str l] w fun v w' => v = .bool (isWord l) ∧ w' = w := by
 refine ret_of [_] func71 rfl ntmps71 rfl ?_
 have st := St.init w []
 refine vc_seq (vc_region ?_)
 refine vc_y rfl rfl (y_as rfl) ?_
 refine vc_end (vq_then (vc_keep [(0, _)] ⟨rfl, trivial⟩ (vc_seq (vc_seq (vc_region ?_)))))
 refine vc_y rfl rfl (y_mv rfl) ?_
 refine vc_end (vq_then (vc_keep [(3, _)] ⟨rfl, trivial⟩ (vc_block (vc_seq (vc_seq (vc_region ?_))))))
 refine vc_y rfl rfl (y_eqs rfl rfl) ?_
 refine vc_y rfl rfl (y_as rfl) ?_
 refine vc_end (vq_then (vc_keep [(3, _), (4, _)] ⟨rfl, rfl, trivial⟩ ?_))
 refine vc_ifs rfl ?_ ?_
 ·
  intro hc4
  try simp only [dn] at hc4
  refine vc_code_skip (vq_then (vc_keep [(4, _)] ⟨rfl, trivial⟩ ?_))
  refine vc_ift rfl ?_
  refine vc_seq (vc_region ?_)
  refine vc_y rfl rfl (y_as rfl) ?_
  refine vc_end (vq_then (vc_keep [(2, _)] ⟨rfl, trivial⟩ (vc_ret (vq_block_ret (vq_then_ret ?_)))))
  refine vq_ret1 st (.inl rfl) results71 (.tmp rfl) ?_
  refine ⟨_, rfl, ?_⟩
  refine ⟨?_, rfl⟩
  rw [Value.bool.injEq]
  first
  | (symm; simp only [isWord, decide_eq_true_eq]; simp only [wShared, wLock, wThread, wLocal, wIf, wElse, wWhile, wPrint, wSkip, wSwap]; simp only [*, true_or, or_true]; done)
  | (symm; simp only [isWord, decide_eq_false_iff_not]; simp only [wShared, wLock, wThread, wLocal, wIf, wElse, wWhile, wPrint, wSkip, wSwap]; simp only [*, or_self, not_false_eq_true])
 ·
  intro hc4
  try simp only [dn] at hc4
  refine vc_seq (vc_region ?_)
  refine vc_y rfl rfl (y_eqs rfl rfl) ?_
  refine vc_y rfl rfl (y_as rfl) ?_
  refine vc_end (vq_then (vc_keep [(3, _), (4, _)] ⟨rfl, rfl, trivial⟩ ?_))
  refine vc_ifs rfl ?_ ?_
  ·
   intro hc4
   try simp only [dn] at hc4
   refine vc_code_skip (vq_then (vc_keep [(4, _)] ⟨rfl, trivial⟩ ?_))
   refine vc_ift rfl ?_
   refine vc_seq (vc_region ?_)
   refine vc_y rfl rfl (y_as rfl) ?_
   refine vc_end (vq_then (vc_keep [(2, _)] ⟨rfl, trivial⟩ (vc_ret (vq_block_ret (vq_then_ret ?_)))))
   refine vq_ret1 st (.inl rfl) results71 (.tmp rfl) ?_
   refine ⟨_, rfl, ?_⟩
   refine ⟨?_, rfl⟩
   rw [Value.bool.injEq]
   first
   | (symm; simp only [isWord, decide_eq_true_eq]; simp only [wShared, wLock, wThread, wLocal, wIf, wElse, wWhile, wPrint, wSkip, wSwap]; simp only [*, true_or, or_true]; done)
   | (symm; simp only [isWord, decide_eq_false_iff_not]; simp only [wShared, wLock, wThread, wLocal, wIf, wElse, wWhile, wPrint, wSkip, wSwap]; simp only [*, or_self, not_false_eq_true])
  ·
   intro hc4
   try simp only [dn] at hc4
   refine vc_seq (vc_region ?_)
   refine vc_y rfl rfl (y_eqs rfl rfl) ?_
   refine vc_y rfl rfl (y_as rfl) ?_
   refine vc_end (vq_then (vc_keep [(3, _), (4, _)] ⟨rfl, rfl, trivial⟩ ?_))
   refine vc_ifs rfl ?_ ?_
   ·
    intro hc4
    try simp only [dn] at hc4
    refine vc_code_skip (vq_then (vc_keep [(4, _)] ⟨rfl, trivial⟩ ?_))
    refine vc_ift rfl ?_
    refine vc_seq (vc_region ?_)
    refine vc_y rfl rfl (y_as rfl) ?_
    refine vc_end (vq_then (vc_keep [(2, _)] ⟨rfl, trivial⟩ (vc_ret (vq_block_ret (vq_then_ret ?_)))))
    refine vq_ret1 st (.inl rfl) results71 (.tmp rfl) ?_
    refine ⟨_, rfl, ?_⟩
    refine ⟨?_, rfl⟩
    rw [Value.bool.injEq]
    first
    | (symm; simp only [isWord, decide_eq_true_eq]; simp only [wShared, wLock, wThread, wLocal, wIf, wElse, wWhile, wPrint, wSkip, wSwap]; simp only [*, true_or, or_true]; done)
    | (symm; simp only [isWord, decide_eq_false_iff_not]; simp only [wShared, wLock, wThread, wLocal, wIf, wElse, wWhile, wPrint, wSkip, wSwap]; simp only [*, or_self, not_false_eq_true])
   ·
    intro hc4
    try simp only [dn] at hc4
    refine vc_seq (vc_region ?_)
    refine vc_y rfl rfl (y_eqs rfl rfl) ?_
    refine vc_y rfl rfl (y_as rfl) ?_
    refine vc_end (vq_then (vc_keep [(3, _), (4, _)] ⟨rfl, rfl, trivial⟩ ?_))
    refine vc_ifs rfl ?_ ?_
    ·
     intro hc4
     try simp only [dn] at hc4
     refine vc_code_skip (vq_then (vc_keep [(4, _)] ⟨rfl, trivial⟩ ?_))
     refine vc_ift rfl ?_
     refine vc_seq (vc_region ?_)
     refine vc_y rfl rfl (y_as rfl) ?_
     refine vc_end (vq_then (vc_keep [(2, _)] ⟨rfl, trivial⟩ (vc_ret (vq_block_ret (vq_then_ret ?_)))))
     refine vq_ret1 st (.inl rfl) results71 (.tmp rfl) ?_
     refine ⟨_, rfl, ?_⟩
     refine ⟨?_, rfl⟩
     rw [Value.bool.injEq]
     first
     | (symm; simp only [isWord, decide_eq_true_eq]; simp only [wShared, wLock, wThread, wLocal, wIf, wElse, wWhile, wPrint, wSkip, wSwap]; simp only [*, true_or, or_true]; done)
     | (symm; simp only [isWord, decide_eq_false_iff_not]; simp only [wShared, wLock, wThread, wLocal, wIf, wElse, wWhile, wPrint, wSkip, wSwap]; simp only [*, or_self, not_false_eq_true])
    ·
     intro hc4
     try simp only [dn] at hc4
     refine vc_seq (vc_region ?_)
     refine vc_y rfl rfl (y_eqs rfl rfl) ?_
     refine vc_y rfl rfl (y_as rfl) ?_
     refine vc_end (vq_then (vc_keep [(3, _), (4, _)] ⟨rfl, rfl, trivial⟩ ?_))
     refine vc_ifs rfl ?_ ?_
     ·
      intro hc4
      try simp only [dn] at hc4
      refine vc_code_skip (vq_then (vc_keep [(4, _)] ⟨rfl, trivial⟩ ?_))
      refine vc_ift rfl ?_
      refine vc_seq (vc_region ?_)
      refine vc_y rfl rfl (y_as rfl) ?_
      refine vc_end (vq_then (vc_keep [(2, _)] ⟨rfl, trivial⟩ (vc_ret (vq_block_ret (vq_then_ret ?_)))))
      refine vq_ret1 st (.inl rfl) results71 (.tmp rfl) ?_
      refine ⟨_, rfl, ?_⟩
      refine ⟨?_, rfl⟩
      rw [Value.bool.injEq]
      first
      | (symm; simp only [isWord, decide_eq_true_eq]; simp only [wShared, wLock, wThread, wLocal, wIf, wElse, wWhile, wPrint, wSkip, wSwap]; simp only [*, true_or, or_true]; done)
      | (symm; simp only [isWord, decide_eq_false_iff_not]; simp only [wShared, wLock, wThread, wLocal, wIf, wElse, wWhile, wPrint, wSkip, wSwap]; simp only [*, or_self, not_false_eq_true])
     ·
      intro hc4
      try simp only [dn] at hc4
      refine vc_seq (vc_region ?_)
      refine vc_y rfl rfl (y_eqs rfl rfl) ?_
      refine vc_y rfl rfl (y_as rfl) ?_
      refine vc_end (vq_then (vc_keep [(3, _), (4, _)] ⟨rfl, rfl, trivial⟩ ?_))
      refine vc_ifs rfl ?_ ?_
      ·
       intro hc4
       try simp only [dn] at hc4
       refine vc_code_skip (vq_then (vc_keep [(4, _)] ⟨rfl, trivial⟩ ?_))
       refine vc_ift rfl ?_
       refine vc_seq (vc_region ?_)
       refine vc_y rfl rfl (y_as rfl) ?_
       refine vc_end (vq_then (vc_keep [(2, _)] ⟨rfl, trivial⟩ (vc_ret (vq_block_ret (vq_then_ret ?_)))))
       refine vq_ret1 st (.inl rfl) results71 (.tmp rfl) ?_
       refine ⟨_, rfl, ?_⟩
       refine ⟨?_, rfl⟩
       rw [Value.bool.injEq]
       first
       | (symm; simp only [isWord, decide_eq_true_eq]; simp only [wShared, wLock, wThread, wLocal, wIf, wElse, wWhile, wPrint, wSkip, wSwap]; simp only [*, true_or, or_true]; done)
       | (symm; simp only [isWord, decide_eq_false_iff_not]; simp only [wShared, wLock, wThread, wLocal, wIf, wElse, wWhile, wPrint, wSkip, wSwap]; simp only [*, or_self, not_false_eq_true])
      ·
       intro hc4
       try simp only [dn] at hc4
       refine vc_seq (vc_region ?_)
       refine vc_y rfl rfl (y_eqs rfl rfl) ?_
       refine vc_y rfl rfl (y_as rfl) ?_
       refine vc_end (vq_then (vc_keep [(3, _), (4, _)] ⟨rfl, rfl, trivial⟩ ?_))
       refine vc_ifs rfl ?_ ?_
       ·
        intro hc4
        try simp only [dn] at hc4
        refine vc_code_skip (vq_then (vc_keep [(4, _)] ⟨rfl, trivial⟩ ?_))
        refine vc_ift rfl ?_
        refine vc_seq (vc_region ?_)
        refine vc_y rfl rfl (y_as rfl) ?_
        refine vc_end (vq_then (vc_keep [(2, _)] ⟨rfl, trivial⟩ (vc_ret (vq_block_ret (vq_then_ret ?_)))))
        refine vq_ret1 st (.inl rfl) results71 (.tmp rfl) ?_
        refine ⟨_, rfl, ?_⟩
        refine ⟨?_, rfl⟩
        rw [Value.bool.injEq]
        first
        | (symm; simp only [isWord, decide_eq_true_eq]; simp only [wShared, wLock, wThread, wLocal, wIf, wElse, wWhile, wPrint, wSkip, wSwap]; simp only [*, true_or, or_true]; done)
        | (symm; simp only [isWord, decide_eq_false_iff_not]; simp only [wShared, wLock, wThread, wLocal, wIf, wElse, wWhile, wPrint, wSkip, wSwap]; simp only [*, or_self, not_false_eq_true])
       ·
        intro hc4
        try simp only [dn] at hc4
        refine vc_seq (vc_region ?_)
        refine vc_y rfl rfl (y_eqs rfl rfl) ?_
        refine vc_y rfl rfl (y_as rfl) ?_
        refine vc_end (vq_then (vc_keep [(3, _), (4, _)] ⟨rfl, rfl, trivial⟩ ?_))
        refine vc_ifs rfl ?_ ?_
        ·
         intro hc4
         try simp only [dn] at hc4
         refine vc_code_skip (vq_then (vc_keep [(4, _)] ⟨rfl, trivial⟩ ?_))
         refine vc_ift rfl ?_
         refine vc_seq (vc_region ?_)
         refine vc_y rfl rfl (y_as rfl) ?_
         refine vc_end (vq_then (vc_keep [(2, _)] ⟨rfl, trivial⟩ (vc_ret (vq_block_ret (vq_then_ret ?_)))))
         refine vq_ret1 st (.inl rfl) results71 (.tmp rfl) ?_
         refine ⟨_, rfl, ?_⟩
         refine ⟨?_, rfl⟩
         rw [Value.bool.injEq]
         first
         | (symm; simp only [isWord, decide_eq_true_eq]; simp only [wShared, wLock, wThread, wLocal, wIf, wElse, wWhile, wPrint, wSkip, wSwap]; simp only [*, true_or, or_true]; done)
         | (symm; simp only [isWord, decide_eq_false_iff_not]; simp only [wShared, wLock, wThread, wLocal, wIf, wElse, wWhile, wPrint, wSkip, wSwap]; simp only [*, or_self, not_false_eq_true])
        ·
         intro hc4
         try simp only [dn] at hc4
         refine vc_seq (vc_region ?_)
         refine vc_y rfl rfl (y_eqs rfl rfl) ?_
         refine vc_y rfl rfl (y_as rfl) ?_
         refine vc_end (vq_then (vc_keep [(3, _), (4, _)] ⟨rfl, rfl, trivial⟩ ?_))
         refine vc_ifs rfl ?_ ?_
         ·
          intro hc4
          try simp only [dn] at hc4
          refine vc_code_skip (vq_then (vc_keep [(4, _)] ⟨rfl, trivial⟩ ?_))
          refine vc_ift rfl ?_
          refine vc_seq (vc_region ?_)
          refine vc_y rfl rfl (y_as rfl) ?_
          refine vc_end (vq_then (vc_keep [(2, _)] ⟨rfl, trivial⟩ (vc_ret (vq_block_ret (vq_then_ret ?_)))))
          refine vq_ret1 st (.inl rfl) results71 (.tmp rfl) ?_
          refine ⟨_, rfl, ?_⟩
          refine ⟨?_, rfl⟩
          rw [Value.bool.injEq]
          first
          | (symm; simp only [isWord, decide_eq_true_eq]; simp only [wShared, wLock, wThread, wLocal, wIf, wElse, wWhile, wPrint, wSkip, wSwap]; simp only [*, true_or, or_true]; done)
          | (symm; simp only [isWord, decide_eq_false_iff_not]; simp only [wShared, wLock, wThread, wLocal, wIf, wElse, wWhile, wPrint, wSkip, wSwap]; simp only [*, or_self, not_false_eq_true])
         ·
          intro hc4
          try simp only [dn] at hc4
          refine vc_region ?_
          refine vc_y rfl rfl (y_eqs rfl rfl) ?_
          refine vc_y rfl rfl (y_as rfl) ?_
          refine vc_end (vq_then (vc_keep [(4, _)] ⟨rfl, trivial⟩ ?_))
          refine vc_ifs rfl ?_ ?_
          ·
           intro hc4
           try simp only [dn] at hc4
           refine vc_seq (vc_region ?_)
           refine vc_y rfl rfl (y_as rfl) ?_
           refine vc_end (vq_then (vc_keep [(2, _)] ⟨rfl, trivial⟩ (vc_ret (vq_block_ret (vq_then_ret ?_)))))
           refine vq_ret1 st (.inl rfl) results71 (.tmp rfl) ?_
           refine ⟨_, rfl, ?_⟩
           refine ⟨?_, rfl⟩
           rw [Value.bool.injEq]
           first
           | (symm; simp only [isWord, decide_eq_true_eq]; simp only [wShared, wLock, wThread, wLocal, wIf, wElse, wWhile, wPrint, wSkip, wSwap]; simp only [*, true_or, or_true]; done)
           | (symm; simp only [isWord, decide_eq_false_iff_not]; simp only [wShared, wLock, wThread, wLocal, wIf, wElse, wWhile, wPrint, wSkip, wSwap]; simp only [*, or_self, not_false_eq_true])
          ·
           intro hc4
           try simp only [dn] at hc4
           refine vc_code_skip (vq_block (vq_then (vc_keep [] trivial (vc_seq (vc_region ?_)))))
           refine vc_y rfl rfl (y_as rfl) ?_
           refine vc_end (vq_then (vc_keep [(2, _)] ⟨rfl, trivial⟩ (vc_ret ?_)))
           refine vq_ret1 st (.inl rfl) results71 (.tmp rfl) ?_
           refine ⟨_, rfl, ?_⟩
           refine ⟨?_, rfl⟩
           rw [Value.bool.injEq]
           first
           | (symm; simp only [isWord, decide_eq_true_eq]; simp only [wShared, wLock, wThread, wLocal, wIf, wElse, wWhile, wPrint, wSkip, wSwap]; simp only [*, true_or, or_true]; done)
           | (symm; simp only [isWord, decide_eq_false_iff_not]; simp only [wShared, wLock, wThread, wLocal, wIf, wElse, wWhile, wPrint, wSkip, wSwap]; simp only [*, or_self, not_false_eq_true])

set_option maxHeartbeats 1000000 in
theorem rword_any (l : List UInt8) (w : World) : Ret Tryz.prog 77 [str l] w fun v w' => v = .bool (isWord l) ∧ w' = w := by
 refine ret_of [_] func77 rfl ntmps77 rfl ?_
 have st := St.init w []
 refine vc_seq (vc_region ?_)
 refine vc_y rfl rfl (y_as rfl) ?_
 refine vc_end (vq_then (vc_keep [(0, _)] ⟨rfl, trivial⟩ (vc_seq (vc_seq (vc_region ?_)))))
 refine vc_y rfl rfl (y_mv rfl) ?_
 refine vc_end (vq_then (vc_keep [(3, _)] ⟨rfl, trivial⟩ (vc_block (vc_seq (vc_seq (vc_region ?_))))))
 refine vc_y rfl rfl (y_eqs rfl rfl) ?_
 refine vc_y rfl rfl (y_as rfl) ?_
 refine vc_end (vq_then (vc_keep [(3, _), (4, _)] ⟨rfl, rfl, trivial⟩ ?_))
 refine vc_ifs rfl ?_ ?_
 ·
  intro hc4
  try simp only [dn] at hc4
  refine vc_code_skip (vq_then (vc_keep [(4, _)] ⟨rfl, trivial⟩ ?_))
  refine vc_ift rfl ?_
  refine vc_seq (vc_region ?_)
  refine vc_y rfl rfl (y_as rfl) ?_
  refine vc_end (vq_then (vc_keep [(2, _)] ⟨rfl, trivial⟩ (vc_ret (vq_block_ret (vq_then_ret ?_)))))
  refine vq_ret1 st (.inl rfl) results77 (.tmp rfl) ?_
  refine ⟨_, rfl, ?_⟩
  refine ⟨?_, rfl⟩
  rw [Value.bool.injEq]
  first
  | (symm; simp only [isWord, decide_eq_true_eq]; simp only [wShared, wLock, wThread, wLocal, wIf, wElse, wWhile, wPrint, wSkip, wSwap]; simp only [*, true_or, or_true]; done)
  | (symm; simp only [isWord, decide_eq_false_iff_not]; simp only [wShared, wLock, wThread, wLocal, wIf, wElse, wWhile, wPrint, wSkip, wSwap]; simp only [*, or_self, not_false_eq_true])
 ·
  intro hc4
  try simp only [dn] at hc4
  refine vc_seq (vc_region ?_)
  refine vc_y rfl rfl (y_eqs rfl rfl) ?_
  refine vc_y rfl rfl (y_as rfl) ?_
  refine vc_end (vq_then (vc_keep [(3, _), (4, _)] ⟨rfl, rfl, trivial⟩ ?_))
  refine vc_ifs rfl ?_ ?_
  ·
   intro hc4
   try simp only [dn] at hc4
   refine vc_code_skip (vq_then (vc_keep [(4, _)] ⟨rfl, trivial⟩ ?_))
   refine vc_ift rfl ?_
   refine vc_seq (vc_region ?_)
   refine vc_y rfl rfl (y_as rfl) ?_
   refine vc_end (vq_then (vc_keep [(2, _)] ⟨rfl, trivial⟩ (vc_ret (vq_block_ret (vq_then_ret ?_)))))
   refine vq_ret1 st (.inl rfl) results77 (.tmp rfl) ?_
   refine ⟨_, rfl, ?_⟩
   refine ⟨?_, rfl⟩
   rw [Value.bool.injEq]
   first
   | (symm; simp only [isWord, decide_eq_true_eq]; simp only [wShared, wLock, wThread, wLocal, wIf, wElse, wWhile, wPrint, wSkip, wSwap]; simp only [*, true_or, or_true]; done)
   | (symm; simp only [isWord, decide_eq_false_iff_not]; simp only [wShared, wLock, wThread, wLocal, wIf, wElse, wWhile, wPrint, wSkip, wSwap]; simp only [*, or_self, not_false_eq_true])
  ·
   intro hc4
   try simp only [dn] at hc4
   refine vc_seq (vc_region ?_)
   refine vc_y rfl rfl (y_eqs rfl rfl) ?_
   refine vc_y rfl rfl (y_as rfl) ?_
   refine vc_end (vq_then (vc_keep [(3, _), (4, _)] ⟨rfl, rfl, trivial⟩ ?_))
   refine vc_ifs rfl ?_ ?_
   ·
    intro hc4
    try simp only [dn] at hc4
    refine vc_code_skip (vq_then (vc_keep [(4, _)] ⟨rfl, trivial⟩ ?_))
    refine vc_ift rfl ?_
    refine vc_seq (vc_region ?_)
    refine vc_y rfl rfl (y_as rfl) ?_
    refine vc_end (vq_then (vc_keep [(2, _)] ⟨rfl, trivial⟩ (vc_ret (vq_block_ret (vq_then_ret ?_)))))
    refine vq_ret1 st (.inl rfl) results77 (.tmp rfl) ?_
    refine ⟨_, rfl, ?_⟩
    refine ⟨?_, rfl⟩
    rw [Value.bool.injEq]
    first
    | (symm; simp only [isWord, decide_eq_true_eq]; simp only [wShared, wLock, wThread, wLocal, wIf, wElse, wWhile, wPrint, wSkip, wSwap]; simp only [*, true_or, or_true]; done)
    | (symm; simp only [isWord, decide_eq_false_iff_not]; simp only [wShared, wLock, wThread, wLocal, wIf, wElse, wWhile, wPrint, wSkip, wSwap]; simp only [*, or_self, not_false_eq_true])
   ·
    intro hc4
    try simp only [dn] at hc4
    refine vc_seq (vc_region ?_)
    refine vc_y rfl rfl (y_eqs rfl rfl) ?_
    refine vc_y rfl rfl (y_as rfl) ?_
    refine vc_end (vq_then (vc_keep [(3, _), (4, _)] ⟨rfl, rfl, trivial⟩ ?_))
    refine vc_ifs rfl ?_ ?_
    ·
     intro hc4
     try simp only [dn] at hc4
     refine vc_code_skip (vq_then (vc_keep [(4, _)] ⟨rfl, trivial⟩ ?_))
     refine vc_ift rfl ?_
     refine vc_seq (vc_region ?_)
     refine vc_y rfl rfl (y_as rfl) ?_
     refine vc_end (vq_then (vc_keep [(2, _)] ⟨rfl, trivial⟩ (vc_ret (vq_block_ret (vq_then_ret ?_)))))
     refine vq_ret1 st (.inl rfl) results77 (.tmp rfl) ?_
     refine ⟨_, rfl, ?_⟩
     refine ⟨?_, rfl⟩
     rw [Value.bool.injEq]
     first
     | (symm; simp only [isWord, decide_eq_true_eq]; simp only [wShared, wLock, wThread, wLocal, wIf, wElse, wWhile, wPrint, wSkip, wSwap]; simp only [*, true_or, or_true]; done)
     | (symm; simp only [isWord, decide_eq_false_iff_not]; simp only [wShared, wLock, wThread, wLocal, wIf, wElse, wWhile, wPrint, wSkip, wSwap]; simp only [*, or_self, not_false_eq_true])
    ·
     intro hc4
     try simp only [dn] at hc4
     refine vc_seq (vc_region ?_)
     refine vc_y rfl rfl (y_eqs rfl rfl) ?_
     refine vc_y rfl rfl (y_as rfl) ?_
     refine vc_end (vq_then (vc_keep [(3, _), (4, _)] ⟨rfl, rfl, trivial⟩ ?_))
     refine vc_ifs rfl ?_ ?_
     ·
      intro hc4
      try simp only [dn] at hc4
      refine vc_code_skip (vq_then (vc_keep [(4, _)] ⟨rfl, trivial⟩ ?_))
      refine vc_ift rfl ?_
      refine vc_seq (vc_region ?_)
      refine vc_y rfl rfl (y_as rfl) ?_
      refine vc_end (vq_then (vc_keep [(2, _)] ⟨rfl, trivial⟩ (vc_ret (vq_block_ret (vq_then_ret ?_)))))
      refine vq_ret1 st (.inl rfl) results77 (.tmp rfl) ?_
      refine ⟨_, rfl, ?_⟩
      refine ⟨?_, rfl⟩
      rw [Value.bool.injEq]
      first
      | (symm; simp only [isWord, decide_eq_true_eq]; simp only [wShared, wLock, wThread, wLocal, wIf, wElse, wWhile, wPrint, wSkip, wSwap]; simp only [*, true_or, or_true]; done)
      | (symm; simp only [isWord, decide_eq_false_iff_not]; simp only [wShared, wLock, wThread, wLocal, wIf, wElse, wWhile, wPrint, wSkip, wSwap]; simp only [*, or_self, not_false_eq_true])
     ·
      intro hc4
      try simp only [dn] at hc4
      refine vc_seq (vc_region ?_)
      refine vc_y rfl rfl (y_eqs rfl rfl) ?_
      refine vc_y rfl rfl (y_as rfl) ?_
      refine vc_end (vq_then (vc_keep [(3, _), (4, _)] ⟨rfl, rfl, trivial⟩ ?_))
      refine vc_ifs rfl ?_ ?_
      ·
       intro hc4
       try simp only [dn] at hc4
       refine vc_code_skip (vq_then (vc_keep [(4, _)] ⟨rfl, trivial⟩ ?_))
       refine vc_ift rfl ?_
       refine vc_seq (vc_region ?_)
       refine vc_y rfl rfl (y_as rfl) ?_
       refine vc_end (vq_then (vc_keep [(2, _)] ⟨rfl, trivial⟩ (vc_ret (vq_block_ret (vq_then_ret ?_)))))
       refine vq_ret1 st (.inl rfl) results77 (.tmp rfl) ?_
       refine ⟨_, rfl, ?_⟩
       refine ⟨?_, rfl⟩
       rw [Value.bool.injEq]
       first
       | (symm; simp only [isWord, decide_eq_true_eq]; simp only [wShared, wLock, wThread, wLocal, wIf, wElse, wWhile, wPrint, wSkip, wSwap]; simp only [*, true_or, or_true]; done)
       | (symm; simp only [isWord, decide_eq_false_iff_not]; simp only [wShared, wLock, wThread, wLocal, wIf, wElse, wWhile, wPrint, wSkip, wSwap]; simp only [*, or_self, not_false_eq_true])
      ·
       intro hc4
       try simp only [dn] at hc4
       refine vc_seq (vc_region ?_)
       refine vc_y rfl rfl (y_eqs rfl rfl) ?_
       refine vc_y rfl rfl (y_as rfl) ?_
       refine vc_end (vq_then (vc_keep [(3, _), (4, _)] ⟨rfl, rfl, trivial⟩ ?_))
       refine vc_ifs rfl ?_ ?_
       ·
        intro hc4
        try simp only [dn] at hc4
        refine vc_code_skip (vq_then (vc_keep [(4, _)] ⟨rfl, trivial⟩ ?_))
        refine vc_ift rfl ?_
        refine vc_seq (vc_region ?_)
        refine vc_y rfl rfl (y_as rfl) ?_
        refine vc_end (vq_then (vc_keep [(2, _)] ⟨rfl, trivial⟩ (vc_ret (vq_block_ret (vq_then_ret ?_)))))
        refine vq_ret1 st (.inl rfl) results77 (.tmp rfl) ?_
        refine ⟨_, rfl, ?_⟩
        refine ⟨?_, rfl⟩
        rw [Value.bool.injEq]
        first
        | (symm; simp only [isWord, decide_eq_true_eq]; simp only [wShared, wLock, wThread, wLocal, wIf, wElse, wWhile, wPrint, wSkip, wSwap]; simp only [*, true_or, or_true]; done)
        | (symm; simp only [isWord, decide_eq_false_iff_not]; simp only [wShared, wLock, wThread, wLocal, wIf, wElse, wWhile, wPrint, wSkip, wSwap]; simp only [*, or_self, not_false_eq_true])
       ·
        intro hc4
        try simp only [dn] at hc4
        refine vc_seq (vc_region ?_)
        refine vc_y rfl rfl (y_eqs rfl rfl) ?_
        refine vc_y rfl rfl (y_as rfl) ?_
        refine vc_end (vq_then (vc_keep [(3, _), (4, _)] ⟨rfl, rfl, trivial⟩ ?_))
        refine vc_ifs rfl ?_ ?_
        ·
         intro hc4
         try simp only [dn] at hc4
         refine vc_code_skip (vq_then (vc_keep [(4, _)] ⟨rfl, trivial⟩ ?_))
         refine vc_ift rfl ?_
         refine vc_seq (vc_region ?_)
         refine vc_y rfl rfl (y_as rfl) ?_
         refine vc_end (vq_then (vc_keep [(2, _)] ⟨rfl, trivial⟩ (vc_ret (vq_block_ret (vq_then_ret ?_)))))
         refine vq_ret1 st (.inl rfl) results77 (.tmp rfl) ?_
         refine ⟨_, rfl, ?_⟩
         refine ⟨?_, rfl⟩
         rw [Value.bool.injEq]
         first
         | (symm; simp only [isWord, decide_eq_true_eq]; simp only [wShared, wLock, wThread, wLocal, wIf, wElse, wWhile, wPrint, wSkip, wSwap]; simp only [*, true_or, or_true]; done)
         | (symm; simp only [isWord, decide_eq_false_iff_not]; simp only [wShared, wLock, wThread, wLocal, wIf, wElse, wWhile, wPrint, wSkip, wSwap]; simp only [*, or_self, not_false_eq_true])
        ·
         intro hc4
         try simp only [dn] at hc4
         refine vc_seq (vc_region ?_)
         refine vc_y rfl rfl (y_eqs rfl rfl) ?_
         refine vc_y rfl rfl (y_as rfl) ?_
         refine vc_end (vq_then (vc_keep [(3, _), (4, _)] ⟨rfl, rfl, trivial⟩ ?_))
         refine vc_ifs rfl ?_ ?_
         ·
          intro hc4
          try simp only [dn] at hc4
          refine vc_code_skip (vq_then (vc_keep [(4, _)] ⟨rfl, trivial⟩ ?_))
          refine vc_ift rfl ?_
          refine vc_seq (vc_region ?_)
          refine vc_y rfl rfl (y_as rfl) ?_
          refine vc_end (vq_then (vc_keep [(2, _)] ⟨rfl, trivial⟩ (vc_ret (vq_block_ret (vq_then_ret ?_)))))
          refine vq_ret1 st (.inl rfl) results77 (.tmp rfl) ?_
          refine ⟨_, rfl, ?_⟩
          refine ⟨?_, rfl⟩
          rw [Value.bool.injEq]
          first
          | (symm; simp only [isWord, decide_eq_true_eq]; simp only [wShared, wLock, wThread, wLocal, wIf, wElse, wWhile, wPrint, wSkip, wSwap]; simp only [*, true_or, or_true]; done)
          | (symm; simp only [isWord, decide_eq_false_iff_not]; simp only [wShared, wLock, wThread, wLocal, wIf, wElse, wWhile, wPrint, wSkip, wSwap]; simp only [*, or_self, not_false_eq_true])
         ·
          intro hc4
          try simp only [dn] at hc4
          refine vc_region ?_
          refine vc_y rfl rfl (y_eqs rfl rfl) ?_
          refine vc_y rfl rfl (y_as rfl) ?_
          refine vc_end (vq_then (vc_keep [(4, _)] ⟨rfl, trivial⟩ ?_))
          refine vc_ifs rfl ?_ ?_
          ·
           intro hc4
           try simp only [dn] at hc4
           refine vc_seq (vc_region ?_)
           refine vc_y rfl rfl (y_as rfl) ?_
           refine vc_end (vq_then (vc_keep [(2, _)] ⟨rfl, trivial⟩ (vc_ret (vq_block_ret (vq_then_ret ?_)))))
           refine vq_ret1 st (.inl rfl) results77 (.tmp rfl) ?_
           refine ⟨_, rfl, ?_⟩
           refine ⟨?_, rfl⟩
           rw [Value.bool.injEq]
           first
           | (symm; simp only [isWord, decide_eq_true_eq]; simp only [wShared, wLock, wThread, wLocal, wIf, wElse, wWhile, wPrint, wSkip, wSwap]; simp only [*, true_or, or_true]; done)
           | (symm; simp only [isWord, decide_eq_false_iff_not]; simp only [wShared, wLock, wThread, wLocal, wIf, wElse, wWhile, wPrint, wSkip, wSwap]; simp only [*, or_self, not_false_eq_true])
          ·
           intro hc4
           try simp only [dn] at hc4
           refine vc_code_skip (vq_block (vq_then (vc_keep [] trivial (vc_seq (vc_region ?_)))))
           refine vc_y rfl rfl (y_as rfl) ?_
           refine vc_end (vq_then (vc_keep [(2, _)] ⟨rfl, trivial⟩ (vc_ret ?_)))
           refine vq_ret1 st (.inl rfl) results77 (.tmp rfl) ?_
           refine ⟨_, rfl, ?_⟩
           refine ⟨?_, rfl⟩
           rw [Value.bool.injEq]
           first
           | (symm; simp only [isWord, decide_eq_true_eq]; simp only [wShared, wLock, wThread, wLocal, wIf, wElse, wWhile, wPrint, wSkip, wSwap]; simp only [*, true_or, or_true]; done)
           | (symm; simp only [isWord, decide_eq_false_iff_not]; simp only [wShared, wLock, wThread, wLocal, wIf, wElse, wWhile, wPrint, wSkip, wSwap]; simp only [*, or_self, not_false_eq_true])

end Go.Proofs.YtggnfanphcaamaaGreatDoor

