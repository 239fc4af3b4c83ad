/- A part of the proof: contracts of functions and plain laws; each theorem says its own conditions. -/
import Derived.Test.YtggnfanphcaamaaGreatDoorK4
namespace Go.Proofs.YtggnfanphcaamaaGreatDoor
open Go.RowKit Sx LexS ParS
set_option linter.unusedVariables false
set_option linter.unusedSimpArgs false
theorem inner_kind {r : List Tok} (h : innerT r = true) : (here r).kind = 2 ∨ (here r).kind = 4 := by
  unfold innerT isT at h
  simp only [Bool.or_eq_true, Bool.and_eq_true, decide_eq_true_eq] at h
  rcases h with (h | h) | h <;> exact h.2
theorem unary_out {e m : Nat} {r : List Tok} (h : innerT r = false) : unaryP e m r = leafP e r := by
  cases m with
  | zero => simp only [unaryP]; rw [if_neg (by simp [h])]
  | succ m => simp only [unaryP]; rw [if_neg (by simp [h])]
theorem unary_deep {e : Nat} {r : List Tok} (h : innerT r = true) : unaryP e 0 r = fail e 3 r := by simp only [unaryP]; rw [if_pos h]
theorem unary_par {e m : Nat} {r : List Tok} (h : innerT r = true) (h2 : (here r).text = [40]) : unaryP e (m + 1) r = match exprW (unaryP e m) r.tail with
    | .error f => .error f
    | .ok (x, r1) => match want e [41] r1 with
      | .error f => .error f
      | .ok r2 => .ok (x, r2) := by
  simp only [unaryP]; rw [if_pos h, if_pos h2]; rfl
theorem unary_op {e m : Nat} {r : List Tok} (h : innerT r = true) (h2 : ¬ (here r).text = [40]) : unaryP e (m + 1) r = match unaryP e m r.tail with
    | .error f => .error f
    | .ok (x, r1) => .ok (.mk 3 (if (here r).text = [33] then 18 else 17) 0 [] [x] ((here r).at_ : Int), r1) := by
  simp only [unaryP]; rw [if_pos h, if_neg h2]; rfl

set_option maxHeartbeats 1000000 in
theorem punary_of (c : PCtx) (hR : c.R = 40) (d m : Nat) (hd : d + m = 64) (hE : ∀ k, m = k + 1 → DRead 92 c (d + 1) (exprW (unaryP c.e k))) (hU : ∀ k, m = k + 1 → DRead 100 c (d + 1) (unaryP c.e k)) : DRead 100 c d (unaryP c.e m) := by
  intro r hr w hC hP
  refine retp_of [_, _] Tryz.func100 rfl Tryz.ntmps100 rfl ?_
  
  obtain ⟨w0, rfl⟩ : ∃ w0, w0 = w := ⟨_, rfl⟩
  have hP' := hP
  dsimp only [PAt, pcell] at hP
  have st := St.of1 [c.pb] hP
  have h20 := hC.len
  have hl := suf_len hr
  refine vc_seq (vc_region ?_)
  refine vc_e (e_al (l := [_, _, _, _, _, _]) st rfl rfl Tryz.zeroValue60 rfl ?_)
  intro b4 w hb4 st
  refine vc_end (vq_then (vc_keep [(0, _), (1, _), (4, _)] ⟨rfl, rfl, rfl, trivial⟩ (vc_seq (vc_region ?_))))
  refine vc_y rfl rfl (y_mv rfl) ?_
  refine vc_e (e_call [_] rfl rfl Tryz.call42 rfl (phere_any c r hr _ (hC.k1 st.chg) (by exact st.res (i := 1) rfl)) ?_)
  rintro _ w ⟨rfl, cw⟩
  replace st := st.call0 cw
  refine vc_e (e_al (l := [_, _, _, _]) st rfl rfl Tryz.zeroValue82 rfl ?_)
  intro b5 w hb5 st
  refine vc_e (e_sts (vs := [_, _, _, _]) st 0 rfl rfl rfl rfl rfl Tryz.sizeOf82 rfl rfl (by first | (right; assumption) | (left; simp)) ?_)
  intro w st; dsimp only [setNth, wr] at st
  refine vc_end (vq_then (vc_keep [(0, _), (1, _), (4, _), (5, _)] ⟨rfl, rfl, rfl, rfl, trivial⟩ ?_))
  refine vc_cut (w0 := w0) (M := [c.pb]) (fun (b : Bool) => [(0, .pointer (some ⟨c.pb, 0, none⟩)), (1, .int .i64 (d : Int)), (4, .pointer (some ⟨b4, 0, none⟩)), (5, .pointer (some ⟨b5, 0, none⟩)), (6, .bool b)]) (fun _ => [.blk b5 (.cells (tkL (here r)).toArray 82 (0, 0)), .blk b4 (.cells ex00.toArray 60 (0, 0)), .blk c.pb (.cells (pcell c r).toArray c.T (0, 0))]) (fun b _ => b = innerT r) ?_ ?_
  ·
    refine vc_region ?_
    refine vc_y rfl rfl (y_mv rfl) ?_
    refine vc_e (e_call [_, _] rfl rfl Tryz.call27 rfl (pis_any c [45] r hr _ (hC.k1 st.chg) (by exact st.res (i := 2) rfl)) ?_)
    rintro _ w ⟨rfl, cw⟩
    replace st := st.call0 cw
    refine vc_e (e_mvb rfl rfl rfl ?_ ?_)
    · intro hg13
      try simp only [dn] at hg13
      iterate 2 refine vc_e (e_skip rfl rfl ?_)
      refine vc_y rfl rfl (y_pickt rfl rfl) ?_
      refine vc_y rfl rfl (y_mv rfl) ?_
      iterate 2 refine vc_e (e_skip rfl rfl ?_)
      refine vc_y rfl rfl (y_pickt rfl rfl) ?_
      refine vc_y rfl rfl (y_as rfl) ?_
      refine vc_end ?_
      refine vq_meet true ⟨rfl, rfl, rfl, rfl, rfl, trivial⟩ st ?_
      · show true = _
        unfold innerT; rw [hg13]; rfl
    · intro hg13
      try simp only [dn] at hg13
      refine vc_y rfl rfl (y_mv rfl) ?_
      refine vc_e (e_call [_, _] rfl rfl Tryz.call27 rfl (pis_any c [33] r hr _ (hC.k1 st.chg) (by exact st.res (i := 2) rfl)) ?_)
      rintro _ w ⟨rfl, cw⟩
      replace st := st.call0 cw
      refine vc_y rfl rfl (y_pickf rfl rfl) ?_
      refine vc_e (e_mvb rfl rfl rfl ?_ ?_)
      · intro hg17
        try simp only [dn] at hg17
        iterate 2 refine vc_e (e_skip rfl rfl ?_)
        refine vc_y rfl rfl (y_pickt rfl rfl) ?_
        refine vc_y rfl rfl (y_as rfl) ?_
        refine vc_end ?_
        refine vq_meet true ⟨rfl, rfl, rfl, rfl, rfl, trivial⟩ st ?_
        · show true = _
          unfold innerT; rw [hg17]; simp
      · intro hg17
        try simp only [dn] at hg17
        refine vc_y rfl rfl (y_mv rfl) ?_
        refine vc_e (e_call [_, _] rfl rfl Tryz.call27 rfl (pis_any c [40] r hr _ (hC.k1 st.chg) (by exact st.res (i := 2) rfl)) ?_)
        rintro _ w ⟨rfl, cw⟩
        replace st := st.call0 cw
        refine vc_y rfl rfl (y_pickf rfl rfl) ?_
        refine vc_y rfl rfl (y_as rfl) ?_
        refine vc_end ?_
        refine vq_meet (isT [40] r) ⟨rfl, rfl, rfl, rfl, rfl, trivial⟩ st ?_
        · show isT [40] r = _
          unfold innerT; rw [hg13, hg17]; rfl
  ·
    clear st
    rintro inn w hin st
    refine vc_seq (vc_block (vc_seq (vc_region ?_)))
    refine vc_y rfl rfl (y_mv rfl) ?_
    refine vc_e (e_mvb rfl rfl rfl ?_ ?_)
    · intro hg23
      try simp only [dn] at hg23
      subst hg23
      refine vc_y rfl rfl (y_mv rfl) ?_
      refine vc_y rfl rfl (y_eqi rfl rfl) ?_
      refine vc_y rfl rfl (y_pickt rfl rfl) ?_
      refine vc_y rfl rfl (y_as rfl) ?_
      refine vc_end (vq_then (vc_keep [(0, _), (1, _), (4, _), (5, _), (6, _), (21, _)] ⟨rfl, rfl, rfl, rfl, rfl, rfl, trivial⟩ ?_))
      refine vc_ifs rfl ?_ ?_
      · intro hc21
        try simp only [dn] at hc21
        have hd64 : d = 64 := by omega
        obtain rfl : m = 0 := by omega
        have hs := unary_deep (e := c.e) hin.symm
        refine vc_region ?_
        refine vc_y rfl rfl (y_mv rfl) ?_
        refine vc_e (e_callp [_, _] rfl rfl Tryz.call29 rfl (pfail_any c 3 r hr _ (hC.k1 st.chg) (by exact st.res (i := 2) rfl) hR) (by rintro _ w' ⟨rfl, ch⟩ a ha; exact And.intro ha (Or.inr ⟨_, rfl, (atT c.e r, 3), by rw [hs]; rfl, rfl, st.chg.trans ch.of_nil⟩)) (fun _ _ h => h.elim))
      · intro hc21
        try simp only [dn] at hc21
        have hd64 : ¬ d = 64 := by omega
        obtain ⟨m, rfl⟩ : ∃ k, m = k + 1 := ⟨m - 1, by omega⟩
        refine vc_seq (vc_region ?_)
        refine vc_y rfl rfl (y_fa0 rfl Tryz.underlying82 rfl rfl Tryz.sizeOf80 rfl) ?_
        refine vc_y rfl rfl ((by exact y_ld st 0 rfl Tryz.isAgg80 rfl rfl)) ?_
        refine vc_y rfl rfl (y_eqi rfl rfl) ?_
        refine vc_y rfl rfl (y_as rfl) ?_
        refine vc_end (vq_then (vc_keep [(0, _), (1, _), (4, _), (5, _), (6, _), (29, _)] ⟨rfl, rfl, rfl, rfl, rfl, rfl, trivial⟩ ?_))
        refine vc_ifs rfl ?_ ?_
        · intro hc29
          exfalso; have := inner_kind hin.symm; revert hc29; simp; omega
        · intro hc29
          try simp only [dn] at hc29
          refine vc_seq (vc_region ?_)
          refine vc_y rfl rfl (y_fa0 rfl Tryz.underlying82 rfl rfl Tryz.sizeOf80 rfl) ?_
          refine vc_y rfl rfl ((by exact y_ld st 0 rfl Tryz.isAgg80 rfl rfl)) ?_
          refine vc_y rfl rfl (y_eqi rfl rfl) ?_
          refine vc_y rfl rfl (y_as rfl) ?_
          refine vc_end (vq_then (vc_keep [(0, _), (1, _), (4, _), (5, _), (6, _), (40, _)] ⟨rfl, rfl, rfl, rfl, rfl, rfl, trivial⟩ ?_))
          refine vc_ifs rfl ?_ ?_
          · intro hc40
            exfalso; have := inner_kind hin.symm; revert hc40; simp; omega
          · intro hc40
            try simp only [dn] at hc40
            refine vc_seq (vc_region ?_)
            refine vc_y rfl rfl (y_mv rfl) ?_
            refine vc_y rfl rfl (y_not rfl) ?_
            refine vc_y rfl rfl (y_as rfl) ?_
            refine vc_end (vq_then (vc_keep [(0, _), (1, _), (4, _), (5, _), (51, _)] ⟨rfl, rfl, rfl, rfl, rfl, trivial⟩ ?_))
            refine vc_ifs rfl ?_ ?_
            · intro hc51
              exfalso; revert hc51; simp
            · intro hc51
              try simp only [dn] at hc51
              refine vc_code_skip (vq_block (vq_then (vc_keep [(0, _), (1, _), (4, _), (5, _)] ⟨rfl, rfl, rfl, rfl, trivial⟩ (vc_seq (vc_region ?_)))))
              refine vc_y rfl rfl (y_mv rfl) ?_
              refine vc_e (e_call [_] rfl rfl Tryz.call43 rfl (pnext_any c r hr (inner_ne hin.symm) _ (hC.k1 st.chg) (by exact st.res (i := 2) rfl)) ?_)
              rintro _ w ⟨rfl, hP1, cw⟩
              replace st := St.prs (b := c.pb) st 2 rfl cw (.inl (.head _)) hP1
              dsimp only [setNth] at st
              refine vc_end (vq_then (vc_keep [(0, _), (1, _), (4, _), (5, _)] ⟨rfl, rfl, rfl, rfl, trivial⟩ (vc_seq (vc_seq (vc_region ?_)))))
              refine vc_y rfl rfl ((by exact y_faz (k := 1) rfl Tryz.underlying82 rfl rfl Tryz.sizeOf9 rfl)) ?_
              refine vc_y rfl rfl ((by exact y_ld st 0 rfl Tryz.isAgg9 rfl rfl)) ?_
              refine vc_y rfl rfl (y_eqs rfl rfl) ?_
              refine vc_end (vq_then (vc_keep [(0, _), (1, _), (4, _), (5, _), (60, _)] ⟨rfl, rfl, rfl, rfl, rfl, trivial⟩ ?_))
              refine vc_ifs rfl ?_ ?_
              · intro hc60
                try simp only [dn] at hc60
                have hs := unary_par (e := c.e) (m := m) hin.symm hc60
                have hne := inner_ne hin.symm
                have hlt := tail_lt hne
                have hr1 := suf_tail hr
                refine vc_seq (vc_region ?_)
                iterate 2 refine vc_y rfl rfl (y_mv rfl) ?_
                refine vc_y rfl rfl (y_add rfl rfl (by omega : _ = ((d + 1 : Nat) : Int)) (by omega) (by omega)) ?_
                refine vc_e (e_callp [_, _] rfl rfl Tryz.call92 rfl (hE m rfl r.tail hr1 _ (hC.k1 st.chg) (by exact st.res (i := 2) rfl)) (by rintro _ w' ⟨f, hf, rfl, ch⟩ a ha; exact And.intro ha (Or.inr ⟨_, rfl, f, by rw [hs, hf], rfl, st.chg.trans ch⟩)) ?_)
                rintro _ w ⟨x, r2, hx, hsfr2, hlnr2, hP1, cw, ox, cx, Sx, rfl, hQ, hN⟩
                have hNSx := hN.le st.chg.size
                replace st := St.prsT (b := c.pb) st 2 rfl cw (.inl (.head _)) hP1 (holds_ex hQ) hN.2
                dsimp only [setNth] at st
                rw [hx] at hs; dsimp only at hs
                refine vc_e (e_al (l := [_, _, _, _, _, _]) st rfl rfl Tryz.zeroValue60 rfl ?_)
                intro b7 w hb7 st
                refine vc_e (e_sts (vs := [_, _, _, _, _, _]) st 0 rfl rfl rfl rfl rfl Tryz.sizeOf60 rfl rfl (by first | (right; assumption) | (left; simp)) ?_)
                intro w st; dsimp only [setNth, wr] at st
                refine vc_end (vq_then (vc_keep [(0, _), (4, _), (7, _)] ⟨rfl, rfl, rfl, trivial⟩ (vc_seq (vc_region ?_))))
                refine vc_y rfl rfl (y_mv rfl) ?_
                refine vc_e (e_bs1 (l := [_]) st rfl rfl rfl rfl Tryz.underlying96 Tryz.sizeOf9 rfl rfl rfl Tryz.zeroValue9 ?_)
                intro b66 w hb66 st
                refine vc_e (e_callp [_, _] rfl rfl Tryz.call41 rfl (pwant_any c [[41]] (by simp) _ _ _ _ rfl r2 (hsfr2.trans hr1) _ (hC.k1 st.chg) (by exact st.res (i := 5) rfl) hR (st.res (i := 0) rfl) (by exact st.bne 0 5 (by decide) rfl rfl)) (by rintro _ w' ⟨f, hf, rfl, ch⟩ a ha; rw [wantL_one] at hf; exact And.intro ha (Or.inr ⟨_, rfl, f, by rw [hs, hf], rfl, st.chg.trans ch⟩)) ?_)
                rintro _ w ⟨r3, hx, hsfr3, hlnr3, hP1, cw⟩
                rw [wantL_one] at hx
                rw [hx] at hs; dsimp only at hs
                replace st := St.prs (b := c.pb) st 5 rfl cw (.inl (.head _)) hP1
                dsimp only [setNth] at st
                have hr3 := hsfr3.trans (hsfr2.trans hr1)
                refine vc_end (vq_then (vc_keep [(4, _), (7, _)] ⟨rfl, rfl, trivial⟩ (vc_seq (vc_region ?_))))
                refine vc_y rfl rfl ((by exact y_lda (vs := [_, _, _, _, _, _]) st 1 rfl Tryz.isAgg60 Tryz.sizeOf60 rfl rfl)) ?_
                refine vc_e (e_sts (vs := [_, _, _, _, _, _]) st 4 rfl rfl rfl rfl rfl Tryz.sizeOf60 rfl rfl (by first | (right; assumption) | (left; simp)) ?_)
                intro w st; dsimp only [setNth, wr] at st
                refine vc_end (vq_then (vc_keep [(4, _)] ⟨rfl, trivial⟩ (vc_ret (vq_then_ret ?_))))
                refine vq_ret1 st (.inl rfl) Tryz.results100 (by exact .cell 4 rfl rfl Tryz.isAgg60 Tryz.sizeOf60) ?_
                refine .inl ⟨_, rfl, ?_⟩
                exact ⟨x, r3, hs, (hsfr3.trans hsfr2).trans (List.tail_suffix _), by simp at hlnr3; omega, (by exact st.res (i := 5) rfl), st.chg, ox, cx, Sx, rfl, (by exact (st.res (i := 2) rfl).1), hNSx⟩
              · intro hc60
                try simp only [dn] at hc60
                have hs := unary_op (e := c.e) (m := m) hin.symm hc60
                have hne := inner_ne hin.symm
                have hlt := tail_lt hne
                have hr1 := suf_tail hr
                refine vc_code_skip (vq_then (vc_keep [(0, _), (1, _), (4, _), (5, _)] ⟨rfl, rfl, rfl, rfl, trivial⟩ (vc_seq (vc_region ?_))))
                refine vc_y rfl rfl (y_as rfl) ?_
                refine vc_end (vq_then (vc_keep [(0, _), (1, _), (4, _), (5, _), (8, _)] ⟨rfl, rfl, rfl, rfl, rfl, trivial⟩ (vc_seq (vc_seq (vc_region ?_)))))
                refine vc_y rfl rfl ((by exact y_faz (k := 1) rfl Tryz.underlying82 rfl rfl Tryz.sizeOf9 rfl)) ?_
                refine vc_y rfl rfl ((by exact y_ld st 0 rfl Tryz.isAgg9 rfl rfl)) ?_
                refine vc_y rfl rfl (y_eqs rfl rfl) ?_
                refine vc_end (vq_then (vc_keep [(0, _), (1, _), (4, _), (5, _), (8, _), (71, _)] ⟨rfl, rfl, rfl, rfl, rfl, rfl, trivial⟩ ?_))
                refine vc_ifs rfl ?_ ?_
                · intro hc71
                  try simp only [dn] at hc71
                  rw [if_pos hc71] at hs
                  refine vc_region ?_
                  refine vc_y rfl rfl (y_as rfl) ?_
                  refine vc_end (vq_then (vc_keep [(0, _), (1, _), (4, _), (5, _), (8, _)] ⟨rfl, rfl, rfl, rfl, rfl, trivial⟩ (vc_seq ?_)))
                  refine vc_draw Tryz.mixed [(0, true), (1, true), (2, true), (3, true), (6, true), (7, true), (4, false), (5, false), (8, true), (9, false)] (fun w => St _ _ [.blk b5 (.cells (tkL (here r)).toArray 82 (0, 0))] w) (by exact st.drop (by repeat (first | exact sl0 | apply sl1 | apply sl2))) (by kernel_rfl) (by repeat (first | exact okQ_noPan | exact okQ_body | exact okQ_bodyS | refine okQ_then ?_ | refine okQ_block ?_)) rfl (by kernel_rfl) ?_
                  intro w cd; replace st := st.call0 cd; clear cd
                  have hS : St _ _ [.blk b5 (.cells (tkL (here r)).toArray 82 (0, 0))] w := (by exact st.drop (by repeat (first | exact sl0 | apply sl1 | apply sl2)))
                  iterate 3 refine vp_take rfl rfl rfl hS (fun w st => y_mv rfl) ?_
                  refine vp_take rfl rfl rfl hS (fun w st => y_add rfl rfl (by omega : _ = ((d + 1 : Nat) : Int)) (by omega) (by omega)) ?_
                  refine vp_take rfl rfl rfl hS (fun w st => (by exact y_faz (k := 3) rfl Tryz.underlying82 rfl rfl Tryz.sizeOf3 rfl)) ?_
                  refine vp_take rfl rfl rfl hS (fun w st => (by exact y_ld st 0 rfl Tryz.isAgg3 rfl rfl)) ?_
                  refine vp_do rfl (e_callp [_, _] rfl rfl Tryz.call100 rfl (hU m rfl r.tail hr1 _ (hC.k1 st.chg) (by exact st.res (i := 2) rfl)) (by rintro _ w' ⟨f, hf, rfl, ch⟩ a ha; exact And.intro ha (Or.inr ⟨_, rfl, f, by rw [hs, hf], rfl, st.chg.trans ch⟩)) ?_)
                  rintro _ w ⟨x, r2, hx, hsfr2, hlnr2, hP1, cw, ox, cx, Sx, rfl, hQ, hN⟩
                  have hNSx := hN.le st.chg.size
                  replace st := St.prsT (b := c.pb) st 2 rfl cw (.inl (.head _)) hP1 (holds_ex hQ) hN.2
                  dsimp only [setNth] at st
                  rw [hx] at hs; dsimp only at hs
                  refine vp_next (by exact st.drop (by repeat (first | exact sl0 | apply sl1 | apply sl2))) ?_; intro hS
                  refine vp_do rfl (e_bs1 (l := [_, _, _, _, _, _]) st rfl rfl rfl rfl Tryz.underlying54 Tryz.sizeOf60 rfl rfl rfl Tryz.zeroValue60 ?_)
                  intro b77 w hb77 st
                  refine vp_next (by exact st.drop (by repeat (first | exact sl0 | apply sl1 | apply sl2))) ?_; intro hS
                  refine vp_take rfl rfl rfl hS (fun w st => y_bld (.agg #[_, _, _, _, _, _]) [(0, _), (1, _), (4, _), (5, _)] rfl (fun w => by simp [Instr.build, go_sem] <;> repeat' constructor)) ?_
                  refine vp_do rfl (e_sts (vs := [_, _, _, _, _, _]) st 3 rfl rfl rfl rfl rfl Tryz.sizeOf60 rfl rfl (by first | (right; assumption) | (left; simp)) ?_)
                  intro w st; dsimp only [setNth, wr] at st
                  refine vp_next (by exact st.drop (by repeat (first | exact sl0 | apply sl1 | apply sl2))) ?_; intro hS
                  refine vp_end (vq_then (vc_keep [(4, _)] ⟨rfl, trivial⟩ (vc_ret ?_)))
                  refine vq_ret1 st (.inl rfl) Tryz.results100 (by exact .cell 3 rfl rfl Tryz.isAgg60 Tryz.sizeOf60) ?_
                  refine .inl ⟨_, rfl, ?_⟩
                  exact ⟨_, _, hs, hsfr2.trans (List.tail_suffix _), by omega, (by exact st.res (i := 4) rfl), st.chg, some ⟨b77, 0, none⟩, 1, b77 :: Sx, rfl, ex_one (st.res (i := 0) rfl) (st.res (i := 1) rfl).1, Nw.app (S := [b77]) ⟨by simp, by simpa using hb77⟩ hNSx (fun b hb hb' => st.ne (i := 0) (j := 1) (by decide) rfl rfl b hb hb')⟩
                · intro hc71
                  try simp only [dn] at hc71
                  rw [if_neg hc71] at hs
                  refine vc_code_skip (vq_then (vc_keep [(0, _), (1, _), (4, _), (5, _), (8, _)] ⟨rfl, rfl, rfl, rfl, rfl, trivial⟩ (vc_seq ?_)))
                  refine vc_draw Tryz.mixed [(0, true), (1, true), (2, true), (3, true), (6, true), (7, true), (4, false), (5, false), (8, true), (9, false)] (fun w => St _ _ [.blk b5 (.cells (tkL (here r)).toArray 82 (0, 0))] w) (by exact st.drop (by repeat (first | exact sl0 | apply sl1 | apply sl2))) (by kernel_rfl) (by repeat (first | exact okQ_noPan | exact okQ_body | exact okQ_bodyS | refine okQ_then ?_ | refine okQ_block ?_)) rfl (by kernel_rfl) ?_
                  intro w cd; replace st := st.call0 cd; clear cd
                  have hS : St _ _ [.blk b5 (.cells (tkL (here r)).toArray 82 (0, 0))] w := (by exact st.drop (by repeat (first | exact sl0 | apply sl1 | apply sl2)))
                  iterate 3 refine vp_take rfl rfl rfl hS (fun w st => y_mv rfl) ?_
                  refine vp_take rfl rfl rfl hS (fun w st => y_add rfl rfl (by omega : _ = ((d + 1 : Nat) : Int)) (by omega) (by omega)) ?_
                  refine vp_take rfl rfl rfl hS (fun w st => (by exact y_faz (k := 3) rfl Tryz.underlying82 rfl rfl Tryz.sizeOf3 rfl)) ?_
                  refine vp_take rfl rfl rfl hS (fun w st => (by exact y_ld st 0 rfl Tryz.isAgg3 rfl rfl)) ?_
                  refine vp_do rfl (e_callp [_, _] rfl rfl Tryz.call100 rfl (hU m rfl r.tail hr1 _ (hC.k1 st.chg) (by exact st.res (i := 2) rfl)) (by rintro _ w' ⟨f, hf, rfl, ch⟩ a ha; exact And.intro ha (Or.inr ⟨_, rfl, f, by rw [hs, hf], rfl, st.chg.trans ch⟩)) ?_)
                  rintro _ w ⟨x, r2, hx, hsfr2, hlnr2, hP1, cw, ox, cx, Sx, rfl, hQ, hN⟩
                  have hNSx := hN.le st.chg.size
                  replace st := St.prsT (b := c.pb) st 2 rfl cw (.inl (.head _)) hP1 (holds_ex hQ) hN.2
                  dsimp only [setNth] at st
                  rw [hx] at hs; dsimp only at hs
                  refine vp_next (by exact st.drop (by repeat (first | exact sl0 | apply sl1 | apply sl2))) ?_; intro hS
                  refine vp_do rfl (e_bs1 (l := [_, _, _, _, _, _]) st rfl rfl rfl rfl Tryz.underlying54 Tryz.sizeOf60 rfl rfl rfl Tryz.zeroValue60 ?_)
                  intro b77 w hb77 st
                  refine vp_next (by exact st.drop (by repeat (first | exact sl0 | apply sl1 | apply sl2))) ?_; intro hS
                  refine vp_take rfl rfl rfl hS (fun w st => y_bld (.agg #[_, _, _, _, _, _]) [(0, _), (1, _), (4, _), (5, _)] rfl (fun w => by simp [Instr.build, go_sem] <;> repeat' constructor)) ?_
                  refine vp_do rfl (e_sts (vs := [_, _, _, _, _, _]) st 3 rfl rfl rfl rfl rfl Tryz.sizeOf60 rfl rfl (by first | (right; assumption) | (left; simp)) ?_)
                  intro w st; dsimp only [setNth, wr] at st
                  refine vp_next (by exact st.drop (by repeat (first | exact sl0 | apply sl1 | apply sl2))) ?_; intro hS
                  refine vp_end (vq_then (vc_keep [(4, _)] ⟨rfl, trivial⟩ (vc_ret ?_)))
                  refine vq_ret1 st (.inl rfl) Tryz.results100 (by exact .cell 3 rfl rfl Tryz.isAgg60 Tryz.sizeOf60) ?_
                  refine .inl ⟨_, rfl, ?_⟩
                  exact ⟨_, _, hs, hsfr2.trans (List.tail_suffix _), by omega, (by exact st.res (i := 4) rfl), st.chg, some ⟨b77, 0, none⟩, 1, b77 :: Sx, rfl, ex_one (st.res (i := 0) rfl) (st.res (i := 1) rfl).1, Nw.app (S := [b77]) ⟨by simp, by simpa using hb77⟩ hNSx (fun b hb hb' => st.ne (i := 0) (j := 1) (by decide) rfl rfl b hb hb')⟩
    · intro hg23
      try simp only [dn] at hg23
      subst hg23
      iterate 2 refine vc_e (e_skip rfl rfl ?_)
      refine vc_y rfl rfl (y_pickf rfl rfl) ?_
      refine vc_y rfl rfl (y_as rfl) ?_
      refine vc_end (vq_then (vc_keep [(0, _), (1, _), (4, _), (5, _), (6, _), (21, _)] ⟨rfl, rfl, rfl, rfl, rfl, rfl, trivial⟩ ?_))
      refine vc_iff rfl ?_
      refine vc_seq (vc_region ?_)
      refine vc_y rfl rfl (y_fa0 rfl Tryz.underlying82 rfl rfl Tryz.sizeOf80 rfl) ?_
      refine vc_y rfl rfl ((by exact y_ld st 0 rfl Tryz.isAgg80 rfl rfl)) ?_
      refine vc_y rfl rfl (y_eqi rfl rfl) ?_
      refine vc_y rfl rfl (y_as rfl) ?_
      refine vc_end (vq_then (vc_keep [(0, _), (1, _), (4, _), (5, _), (6, _), (29, _)] ⟨rfl, rfl, rfl, rfl, rfl, rfl, trivial⟩ ?_))
      refine vc_ifs rfl ?_ ?_
      · intro hc29
        try simp only [dn] at hc29
        have hk : (here r).kind = 3 := by omega
        have hne := kind_ne hk (by decide)
        have hs := (unary_out (e := c.e) (m := m) hin.symm).trans (by unfold leafP; rw [if_pos hk])
        refine vc_seq (vc_region ?_)
        refine vc_y rfl rfl (y_mv rfl) ?_
        refine vc_e (e_call [_] rfl rfl Tryz.call43 rfl (pnext_any c r hr hne _ (hC.k1 st.chg) (by exact st.res (i := 2) rfl)) ?_)
        rintro _ w ⟨rfl, hP1, cw⟩
        replace st := St.prs (b := c.pb) st 2 rfl cw (.inl (.head _)) hP1
        dsimp only [setNth] at st
        refine vc_end (vq_then (vc_keep [(4, _), (5, _)] ⟨rfl, rfl, trivial⟩ (vc_seq (vc_region ?_))))
        refine vc_y rfl rfl ((by exact y_faz (k := 2) rfl Tryz.underlying82 rfl rfl Tryz.sizeOf2 rfl)) ?_
        refine vc_y rfl rfl ((by exact y_ld st 0 rfl Tryz.isAgg2 rfl rfl)) ?_
        refine vc_y rfl rfl ((by exact y_faz (k := 3) rfl Tryz.underlying82 rfl rfl Tryz.sizeOf3 rfl)) ?_
        refine vc_y rfl rfl ((by exact y_ld st 0 rfl Tryz.isAgg3 rfl rfl)) ?_
        refine vc_y rfl rfl (y_bld (.agg #[_, _, _, _, _, _]) [(0, _), (2, _), (5, _)] rfl (fun w => by simp [Instr.build, go_sem] <;> repeat' constructor)) ?_
        refine vc_e (e_sts (vs := [_, _, _, _, _, _]) st 1 rfl rfl rfl rfl rfl Tryz.sizeOf60 rfl rfl (by first | (right; assumption) | (left; simp)) ?_)
        intro w st; dsimp only [setNth, wr] at st
        refine vc_end (vq_then (vc_keep [(4, _)] ⟨rfl, trivial⟩ (vc_ret (vq_block_ret (vq_then_ret ?_)))))
        refine vq_ret1 st (.inl rfl) Tryz.results100 (by exact .cell 1 rfl rfl Tryz.isAgg60 Tryz.sizeOf60) ?_
        refine .inl ⟨_, rfl, ?_⟩
        exact ⟨_, _, hs, List.tail_suffix _, tail_lt hne, (by exact st.res (i := 2) rfl), st.chg, none, 0, [], rfl, ⟨[], [], World.ownsRow_nil _ _ _ _, rfl, rfl, rfl⟩, Nw.nil⟩
      · intro hc29
        try simp only [dn] at hc29
        refine vc_seq (vc_region ?_)
        refine vc_y rfl rfl (y_fa0 rfl Tryz.underlying82 rfl rfl Tryz.sizeOf80 rfl) ?_
        refine vc_y rfl rfl ((by exact y_ld st 0 rfl Tryz.isAgg80 rfl rfl)) ?_
        refine vc_y rfl rfl (y_eqi rfl rfl) ?_
        refine vc_y rfl rfl (y_as rfl) ?_
        refine vc_end (vq_then (vc_keep [(0, _), (1, _), (4, _), (5, _), (6, _), (40, _)] ⟨rfl, rfl, rfl, rfl, rfl, rfl, trivial⟩ ?_))
        refine vc_ifs rfl ?_ ?_
        · intro hc40
          try simp only [dn] at hc40
          have hk : (here r).kind = 1 := by omega
          have hne := kind_ne hk (by decide)
          have hs := (unary_out (e := c.e) (m := m) hin.symm).trans (by unfold leafP; rw [if_neg (by omega), if_pos hk])
          refine vc_seq (vc_region ?_)
          refine vc_y rfl rfl (y_mv rfl) ?_
          refine vc_e (e_call [_] rfl rfl Tryz.call43 rfl (pnext_any c r hr hne _ (hC.k1 st.chg) (by exact st.res (i := 2) rfl)) ?_)
          rintro _ w ⟨rfl, hP1, cw⟩
          replace st := St.prs (b := c.pb) st 2 rfl cw (.inl (.head _)) hP1
          dsimp only [setNth] at st
          refine vc_end (vq_then (vc_keep [(4, _), (5, _)] ⟨rfl, rfl, trivial⟩ (vc_seq (vc_region ?_))))
          refine vc_y rfl rfl ((by exact y_faz (k := 1) rfl Tryz.underlying82 rfl rfl Tryz.sizeOf9 rfl)) ?_
          refine vc_y rfl rfl ((by exact y_ld st 0 rfl Tryz.isAgg9 rfl rfl)) ?_
          refine vc_y rfl rfl ((by exact y_faz (k := 3) rfl Tryz.underlying82 rfl rfl Tryz.sizeOf3 rfl)) ?_
          refine vc_y rfl rfl ((by exact y_ld st 0 rfl Tryz.isAgg3 rfl rfl)) ?_
          refine vc_y rfl rfl (y_bld (.agg #[_, _, _, _, _, _]) [(0, _), (3, _), (5, _)] rfl (fun w => by simp [Instr.build, go_sem] <;> repeat' constructor)) ?_
          refine vc_e (e_sts (vs := [_, _, _, _, _, _]) st 1 rfl rfl rfl rfl rfl Tryz.sizeOf60 rfl rfl (by first | (right; assumption) | (left; simp)) ?_)
          intro w st; dsimp only [setNth, wr] at st
          refine vc_end (vq_then (vc_keep [(4, _)] ⟨rfl, trivial⟩ (vc_ret (vq_block_ret (vq_then_ret ?_)))))
          refine vq_ret1 st (.inl rfl) Tryz.results100 (by exact .cell 1 rfl rfl Tryz.isAgg60 Tryz.sizeOf60) ?_
          refine .inl ⟨_, rfl, ?_⟩
          exact ⟨_, _, hs, List.tail_suffix _, tail_lt hne, (by exact st.res (i := 2) rfl), st.chg, none, 0, [], rfl, ⟨[], [], World.ownsRow_nil _ _ _ _, rfl, rfl, rfl⟩, Nw.nil⟩
        · intro hc40
          try simp only [dn] at hc40
          refine vc_seq (vc_region ?_)
          refine vc_y rfl rfl (y_mv rfl) ?_
          refine vc_y rfl rfl (y_not rfl) ?_
          refine vc_y rfl rfl (y_as rfl) ?_
          refine vc_end (vq_then (vc_keep [(0, _), (1, _), (4, _), (5, _), (51, _)] ⟨rfl, rfl, rfl, rfl, rfl, trivial⟩ ?_))
          refine vc_ifs rfl ?_ ?_
          · intro hc51
            try simp only [dn] at hc51
            have hs := (unary_out (e := c.e) (m := m) hin.symm).trans (show leafP c.e r = fail c.e 2 r by unfold leafP; rw [if_neg (by omega), if_neg (by omega)])
            refine vc_region ?_
            refine vc_y rfl rfl (y_mv rfl) ?_
            refine vc_e (e_callp [_, _] rfl rfl Tryz.call29 rfl (pfail_any c 2 r hr _ (hC.k1 st.chg) (by exact st.res (i := 2) rfl) hR) (by rintro _ w' ⟨rfl, ch⟩ a ha; exact And.intro ha (Or.inr ⟨_, rfl, (atT c.e r, 2), by rw [hs]; rfl, rfl, st.chg.trans ch.of_nil⟩)) (fun _ _ h => h.elim))
          · intro hc51
            exfalso; revert hc51; simp

end Go.Proofs.YtggnfanphcaamaaGreatDoor


namespace Go.Proofs.YtggnfanphcaamaaGreatDoor
open Go.RowKit Sx LexS ParS
set_option linter.unusedVariables false
set_option linter.unusedSimpArgs false
theorem punary_any (c : PCtx) (hR : c.R = 40) (hg : c.g = 1) : ∀ (m d : Nat), d + m = 64 → DRead 100 c d (unaryP c.e m)
 | 0, d, h => punary_of c hR d 0 h (fun k hk => by omega) (fun k hk => by omega)
 | m + 1, d, h => punary_of c hR d (m + 1) h (fun k hk => by
     obtain rfl : k = m := by omega
     exact pexpr_of c hR hg (d + 1) k (punary_any c hR hg k (d + 1) (by omega))) (fun k hk => by
     obtain rfl : k = m := by omega
     exact punary_any c hR hg k (d + 1) (by omega))
/-- an expression that lies in no other -/
theorem pexpr_any (c : PCtx) (hR : c.R = 40) (hg : c.g = 1) (r : List Tok) (hr : r <:+ c.ts) (w : World) (hC : PCok c w) (hP : PAt c r w) : RetP Tryz.prog 92 [.pointer (some ⟨c.pb, 0, none⟩), .int .i64 0] w
    (PRes c r (exprP c.e 64 r) [c.pb] w (HE w)) (PErr c (exprP c.e 64 r) [c.pb] w) := pexpr_of c hR hg 0 64 (punary_any c hR hg 64 0 rfl) r hr w hC hP
/-- a row of one expression -/
def HX (w : World) (x : Ex) (v : Value) (w' : World) : Prop := ∃ oq cq Sq, v = .slice oq 1 cq ∧ ExR 60 w' oq cq [x] Sq ∧ Nw w.heap.size Sq

theorem pcond_any (c : PCtx) (hR : c.R = 40) (hg : c.g = 1) (r : List Tok) (hr : r <:+ c.ts) (w : World) (hC : PCok c w) (hP : PAt c r w) : RetP Tryz.prog 98 [.pointer (some ⟨c.pb, 0, none⟩)] w
    (PRes c r (condP c.e r) [c.pb] w (HX w)) (PErr c (condP c.e r) [c.pb] w) := by
 refine retp_of [_] Tryz.func98 rfl Tryz.ntmps98 rfl ?_
  
 obtain ⟨w0, rfl⟩ : ∃ w0, w0 = w := ⟨_, rfl⟩
 have hP' := hP
 dsimp only [PAt, pcell] at hP
 have st := St.of1 [c.pb] hP
 have h20 := hC.len
 have hl := suf_len hr
 have hs := condP.eq_1 c.e r
 refine vc_seq (vc_region ?_)
 refine vc_y rfl rfl (y_as rfl) ?_
 refine vc_end (vq_then (vc_keep [(0, _)] ⟨rfl, trivial⟩ (vc_seq (vc_region ?_))))
 refine vc_y rfl rfl (y_mv rfl) ?_
 refine vc_e (e_bs1 (l := [_]) st rfl rfl rfl rfl Tryz.underlying96 Tryz.sizeOf9 rfl rfl rfl Tryz.zeroValue9 ?_)
 intro b5 w hb5 st
 refine vc_e (e_callp [_, _] rfl rfl Tryz.call41 rfl (pwant_any c [[40]] (by simp) _ _ _ _ rfl r hr _ (hC.k1 st.chg) (by exact st.res (i := 1) rfl) hR (st.res (i := 0) rfl) (by exact st.bne 0 1 (by decide) rfl rfl)) (by rintro _ w' ⟨f, hf, rfl, ch⟩ a ha; rw [wantL_one] at hf; exact And.intro ha (Or.inr ⟨_, rfl, f, by rw [hs, hf], rfl, st.chg.trans ch⟩)) ?_)
 rintro _ w ⟨r1, hx, hsfr1, hlnr1, hP1, cw⟩
 rw [wantL_one] at hx
 rw [hx] at hs; dsimp only at hs
 replace st := St.prs (b := c.pb) st 1 rfl cw (.inl (.head _)) hP1
 dsimp only [setNth] at st
 have hr1 := hsfr1.trans hr
 refine vc_end (vq_then (vc_keep [(0, _)] ⟨rfl, trivial⟩ (vc_seq (vc_region ?_))))
 refine vc_y rfl rfl (y_mv rfl) ?_
 refine vc_e (e_callp [_, _] rfl rfl Tryz.call92 rfl (pexpr_any c hR hg r1 hr1 _ (hC.k1 st.chg) (by exact st.res (i := 1) rfl)) (by rintro _ w' ⟨f, hf, rfl, ch⟩ a ha; exact And.intro ha (Or.inr ⟨_, rfl, f, by rw [hs, hf], rfl, st.chg.trans ch⟩)) ?_)
 rintro _ w ⟨x, r2, hx, hsfr2, hlnr2, hP1, cw, ox, cx, Sx, rfl, hQ, hN⟩
 have hNSx := hN.le st.chg.size
 replace st := St.prsT (b := c.pb) st 1 rfl cw (.inl (.head _)) hP1 (holds_ex hQ) hN.2
 dsimp only [setNth] at st
 rw [hx] at hs; dsimp only at hs
 have hr2 := hsfr2.trans hr1
 refine vc_e (e_al (l := [_, _, _, _, _, _]) st rfl rfl Tryz.zeroValue60 rfl ?_)
 intro b3 w hb3 st
 refine vc_e (e_sts (vs := [_, _, _, _, _, _]) st 0 rfl rfl rfl rfl rfl Tryz.sizeOf60 rfl rfl (by first | (right; assumption) | (left; simp)) ?_)
 intro w st; dsimp only [setNth, wr] at st
 refine vc_end (vq_then (vc_keep [(0, _), (3, _)] ⟨rfl, rfl, trivial⟩ (vc_seq (vc_region ?_))))
 refine vc_y rfl rfl (y_mv rfl) ?_
 refine vc_e (e_bs1 (l := [_]) st rfl rfl rfl rfl Tryz.underlying96 Tryz.sizeOf9 rfl rfl rfl Tryz.zeroValue9 ?_)
 intro b10 w hb10 st
 refine vc_e (e_callp [_, _] rfl rfl Tryz.call41 rfl (pwant_any c [[41]] (by simp) _ _ _ _ rfl r2 hr2 _ (hC.k1 st.chg) (by exact st.res (i := 4) rfl) hR (st.res (i := 0) rfl) (by exact st.bne 0 4 (by decide) rfl rfl)) (by rintro _ w' ⟨f, hf, rfl, ch⟩ a ha; rw [wantL_one] at hf; exact And.intro ha (Or.inr ⟨_, rfl, f, by rw [hs, hf], rfl, st.chg.trans ch⟩)) ?_)
 rintro _ w ⟨r3, hx, hsfr3, hlnr3, hP1, cw⟩
 rw [wantL_one] at hx
 rw [hx] at hs; dsimp only at hs
 replace st := St.prs (b := c.pb) st 4 rfl cw (.inl (.head _)) hP1
 dsimp only [setNth] at st
 have hr3 := hsfr3.trans hr2
 refine vc_end (vq_then (vc_keep [(3, _)] ⟨rfl, trivial⟩ (vc_seq (vc_region ?_))))
 refine vc_y rfl rfl ((by exact y_lda (vs := [_, _, _, _, _, _]) st 1 rfl Tryz.isAgg60 Tryz.sizeOf60 rfl rfl)) ?_
 refine vc_e (e_bs1 (l := [_, _, _, _, _, _]) st rfl rfl rfl rfl Tryz.underlying54 Tryz.sizeOf60 rfl rfl rfl Tryz.zeroValue60 ?_)
 intro b13 w hb13 st
 refine vc_y rfl rfl (y_as rfl) ?_
 refine vc_end (vq_then (vc_keep [(2, _)] ⟨rfl, trivial⟩ (vc_ret ?_)))
 refine vq_ret1 st (.inl rfl) Tryz.results98 (.tmp rfl) ?_
 refine .inl ⟨_, rfl, ?_⟩
 exact ⟨x, r3, hs, hsfr3.trans (hsfr2.trans hsfr1), by simp at hlnr3 hlnr1; omega, (by exact st.res (i := 5) rfl), st.chg, some ⟨b13, 0, none⟩, 1, b13 :: Sx, rfl, ex_one (st.res (i := 0) rfl) (by exact (st.res (i := 3) rfl).1), Nw.app (S := [b13]) ⟨by simp, by simpa using hb13⟩ hNSx (fun b hb hb' => by exact st.ne (i := 0) (j := 3) (by decide) rfl rfl b hb hb')⟩

theorem pskip_any (c : PCtx) (hR : c.R = 40) (hg : c.g = 1) (a : Nat) (r : List Tok) (hr : r <:+ c.ts) (w : World) (hC : PCok c w) (hP : PAt c r w) (xb : Nat) (hX : w.heap[xb]? = some (.cells (sm00 (a : Int)).toArray 56 (0, 0))) (hne : c.pb ≠ xb) (hxn : c.n0 ≤ xb) (dv : Value) : RetP Tryz.prog 91 [.pointer (some ⟨c.pb, 0, none⟩), .pointer (some ⟨xb, 0, none⟩), dv] w
    (PRes c r (skipP c.e a r) [c.pb, xb] w (fun s _ w' => StIn 60 56 xb w.heap.size s w')) (PErr c (skipP c.e a r) [c.pb, xb] w) := by
 refine retp_of [_, _, _] Tryz.func91 rfl Tryz.ntmps91 rfl ?_
  
 obtain ⟨w0, rfl⟩ : ∃ w0, w0 = w := ⟨_, rfl⟩
 have hP' := hP
 dsimp only [PAt, pcell] at hP
 have st := St.of2 [c.pb, xb] hP hX hne
 have KC : ∀ {w'}, Chg [c.pb, xb] w0 w' → PCok c w' := fun ch => hC.k2 ch hxn
 have h20 := hC.len
 have hl := suf_len hr
 have hs := skipP.eq_1 c.e a r
 refine vc_seq (vc_region ?_)
 refine vc_y rfl rfl (y_mv rfl) ?_
 refine vc_y rfl rfl (y_nck rfl) ?_
 refine vc_y rfl rfl (y_fa0 rfl Tryz.underlying56 rfl rfl Tryz.sizeOf53 rfl) ?_
 refine vc_e (e_st st 1 rfl rfl rfl rfl Tryz.sizeOf53 rfl rfl (by first | (right; assumption) | (left; simp)) ?_)
 intro w st; dsimp only [setNth, wr] at st
 refine vc_end (vq_then (vc_keep [(0, _)] ⟨rfl, trivial⟩ (vc_region ?_)))
 refine vc_y rfl rfl (y_mv rfl) ?_
 refine vc_e (e_bs1 (l := [_]) st rfl rfl rfl rfl Tryz.underlying96 Tryz.sizeOf9 rfl rfl rfl Tryz.zeroValue9 ?_)
 intro b10 w hb10 st
 refine vc_e (e_callp [_, _] rfl rfl Tryz.call41 rfl (pwant_any c [[59]] (by simp) _ _ _ _ rfl r hr _ (KC st.chg) (by exact st.res (i := 1) rfl) hR (st.res (i := 0) rfl) (by exact st.bne 0 1 (by decide) rfl rfl)) (by rintro _ w' ⟨f, hf, rfl, ch⟩ a ha; rw [wantL_one] at hf; exact And.intro ha (Or.inr ⟨_, rfl, f, by rw [hs, hf], rfl, st.chg.trans (ch.mono (by simp))⟩)) ?_)
 rintro _ w ⟨r1, hx, hsfr1, hlnr1, hP1, cw⟩
 rw [wantL_one] at hx
 rw [hx] at hs; dsimp only at hs
 replace st := St.prs (b := c.pb) st 1 rfl cw (.inl (.head _)) hP1
 dsimp only [setNth] at st
 have hr1 := hsfr1.trans hr
 refine vc_end ?_
 refine vq_ret0 (.inr rfl) Tryz.results91 ?_
 refine .inl ⟨_, rfl, ?_⟩
 exact ⟨_, r1, hs, hsfr1, by simp at hlnr1; omega, (by exact st.res (i := 1) rfl), st.chg, none, none, none, 0, 0, 0, [], [], [], (by exact st.res (i := 2) rfl), exr_nil, smr_nil, smr_nil, Nw.nil⟩

theorem pprint_any (c : PCtx) (hR : c.R = 40) (hg : c.g = 1) (a : Nat) (r : List Tok) (hr : r <:+ c.ts) (w : World) (hC : PCok c w) (hP : PAt c r w) (xb : Nat) (hX : w.heap[xb]? = some (.cells (sm00 (a : Int)).toArray 56 (0, 0))) (hne : c.pb ≠ xb) (hxn : c.n0 ≤ xb) (dv : Value) : RetP Tryz.prog 90 [.pointer (some ⟨c.pb, 0, none⟩), .pointer (some ⟨xb, 0, none⟩), dv] w
    (PRes c r (printP c.e a r) [c.pb, xb] w (fun s _ w' => StIn 60 56 xb w.heap.size s w')) (PErr c (printP c.e a r) [c.pb, xb] w) := by
 refine retp_of [_, _, _] Tryz.func90 rfl Tryz.ntmps90 rfl ?_
  
 obtain ⟨w0, rfl⟩ : ∃ w0, w0 = w := ⟨_, rfl⟩
 have hP' := hP
 dsimp only [PAt, pcell] at hP
 have st := St.of2 [c.pb, xb] hP hX hne
 have KC : ∀ {w'}, Chg [c.pb, xb] w0 w' → PCok c w' := fun ch => hC.k2 ch hxn
 have h20 := hC.len
 have hl := suf_len hr
 have hs := printP.eq_1 c.e a r
 refine vc_seq (vc_region ?_)
 iterate 3 refine vc_y rfl rfl (y_mv rfl) ?_
 refine vc_e (e_callp [_, _] rfl rfl Tryz.call92 rfl (pexpr_any c hR hg r hr _ (KC st.chg) (by exact st.res (i := 0) rfl)) (by rintro _ w' ⟨f, hf, rfl, ch⟩ a ha; exact And.intro ha (Or.inr ⟨_, rfl, f, by rw [hs, hf], rfl, st.chg.trans (ch.mono (by simp))⟩)) ?_)
 rintro _ w ⟨x, r1, hx, hsfr1, hlnr1, hP1, cw, ox, cx, Sx, rfl, hQ, hN⟩
 have hNSx := hN.le st.chg.size
 replace st := St.prsT (b := c.pb) st 0 rfl cw (.inl (.head _)) hP1 (holds_ex hQ) hN.2
 dsimp only [setNth] at st
 rw [hx] at hs; dsimp only at hs
 have hr1 := hsfr1.trans hr
 refine vc_e (e_bs1 (l := [_, _, _, _, _, _]) st rfl rfl rfl rfl Tryz.underlying54 Tryz.sizeOf60 rfl rfl rfl Tryz.zeroValue60 ?_)
 intro b10 w hb10 st
 have hE := ex_one (st.res (i := 0) rfl) (st.res (i := 1) rfl).1
 have hNe : Nw w0.heap.size (b10 :: Sx) := Nw.app (S := [b10]) ⟨by simp, by simpa using hb10⟩ hNSx (fun b hb hb' => st.ne (i := 0) (j := 1) (by decide) rfl rfl b hb hb')
 replace st := st.join (q := .tree (b10 :: Sx) fun w => ExR 60 w (some ⟨b10, 0, none⟩) 1 [x] (b10 :: Sx)) (fun k hk => by
   rcases List.mem_cons.1 hk with rfl | hk
   · exact .inl (.head _)
   · exact .inr hk) (holds_ex hE)
 refine vc_y rfl rfl (y_nck rfl) ?_
 refine vc_y rfl rfl (y_fa0 rfl Tryz.underlying56 rfl rfl Tryz.sizeOf53 rfl) ?_
 refine vc_e (e_st st 2 rfl rfl rfl rfl Tryz.sizeOf53 rfl rfl (by first | (right; assumption) | (left; simp)) ?_)
 intro w st; dsimp only [setNth, wr] at st
 refine vc_y rfl rfl (y_nck rfl) ?_
 refine vc_y rfl rfl ((by exact y_faz (k := 3) rfl Tryz.underlying56 rfl rfl Tryz.sizeOf54 rfl)) ?_
 refine vc_e (e_st st 2 rfl rfl rfl rfl Tryz.sizeOf54 rfl rfl (by first | (right; assumption) | (left; simp)) ?_)
 intro w st; dsimp only [setNth, wr] at st
 refine vc_end (vq_then (vc_keep [(0, _)] ⟨rfl, trivial⟩ (vc_region ?_)))
 refine vc_y rfl rfl (y_mv rfl) ?_
 refine vc_e (e_bs1 (l := [_]) st rfl rfl rfl rfl Tryz.underlying96 Tryz.sizeOf9 rfl rfl rfl Tryz.zeroValue9 ?_)
 intro b16 w hb16 st
 refine vc_e (e_callp [_, _] rfl rfl Tryz.call41 rfl (pwant_any c [[59]] (by simp) _ _ _ _ rfl r1 hr1 _ (KC st.chg) (by exact st.res (i := 2) rfl) hR (st.res (i := 0) rfl) (by exact st.bne 0 2 (by decide) rfl rfl)) (by rintro _ w' ⟨f, hf, rfl, ch⟩ a ha; rw [wantL_one] at hf; exact And.intro ha (Or.inr ⟨_, rfl, f, by rw [hs, hf], rfl, st.chg.trans (ch.mono (by simp))⟩)) ?_)
 rintro _ w ⟨r2, hx, hsfr2, hlnr2, hP1, cw⟩
 rw [wantL_one] at hx
 rw [hx] at hs; dsimp only at hs
 replace st := St.prs (b := c.pb) st 2 rfl cw (.inl (.head _)) hP1
 dsimp only [setNth] at st
 have hr2 := hsfr2.trans hr1
 refine vc_end ?_
 refine vq_ret0 (.inr rfl) Tryz.results90 ?_
 refine .inl ⟨_, rfl, ?_⟩
 exact ⟨_, r2, hs, hsfr2.trans hsfr1, by simp at hlnr2; omega, (by exact st.res (i := 2) rfl), st.chg, some ⟨b10, 0, none⟩, none, none, 1, 0, 0, b10 :: Sx, [], [], (by exact st.res (i := 3) rfl), (by exact (st.res (i := 1) rfl).1), smr_nil, smr_nil, by simpa using hNe⟩

set_option maxHeartbeats 1000000 in
theorem passign_any (c : PCtx) (hR : c.R = 40) (hg : c.g = 1) (a : Nat) (r : List Tok) (hr : r <:+ c.ts) (w : World) (hC : PCok c w) (hP : PAt c r w) (xb : Nat) (hX : w.heap[xb]? = some (.cells (sm00 (a : Int)).toArray 56 (0, 0))) (hne : c.pb ≠ xb) (hxn : c.n0 ≤ xb) : RetP Tryz.prog 73 [.pointer (some ⟨c.pb, 0, none⟩), .pointer (some ⟨xb, 0, none⟩)] w
    (PRes c r (assignP c.e a r) [c.pb, xb] w (fun s _ w' => StIn 60 56 xb w.heap.size s w')) (PErr c (assignP c.e a r) [c.pb, xb] w) := by
 refine retp_of [_, _] Tryz.func73 rfl Tryz.ntmps73 rfl ?_
  
 obtain ⟨w0, rfl⟩ : ∃ w0, w0 = w := ⟨_, rfl⟩
 have hP' := hP
 dsimp only [PAt, pcell] at hP
 have st := St.of2 [c.pb, xb] hP hX hne
 have KC : ∀ {w'}, Chg [c.pb, xb] w0 w' → PCok c w' := fun ch => hC.k2 ch hxn
 have h20 := hC.len
 have hl := suf_len hr
 have hs := assignP_eq c.e a r
 refine vc_seq (vc_region ?_)
 iterate 3 refine vc_y rfl rfl (y_mv rfl) ?_
 refine vc_e (e_callp [_] rfl rfl Tryz.call44 rfl (pname_any c hR r hr _ (KC st.chg) (by exact st.res (i := 0) rfl)) (by rintro _ w' ⟨f, hf, rfl, ch⟩ a ha; exact And.intro ha (Or.inr ⟨_, rfl, f, by rw [hs, hf], rfl, st.chg.trans (ch.mono (by simp))⟩)) ?_)
 rintro _ w ⟨t, r1, hx, hsf, hln, hP1, cw, rfl⟩
 replace st := St.prs (b := c.pb) st 0 rfl cw (.inl (.head _)) hP1
 dsimp only [setNth] at st
 rw [hx] at hs; dsimp only at hs
 have hr1 := hsf.trans hr
 have hsfr1 := hsf
 have hlnr1 := hln
 refine vc_y rfl rfl (y_fld rfl Tryz.underlying82 rfl rfl Tryz.isAgg9 rfl) ?_
 refine vc_y rfl rfl (y_nck rfl) ?_
 refine vc_y rfl rfl (y_fa0 rfl Tryz.underlying56 rfl rfl Tryz.sizeOf53 rfl) ?_
 refine vc_e (e_st st 1 rfl rfl rfl rfl Tryz.sizeOf53 rfl rfl (by first | (right; assumption) | (left; simp)) ?_)
 intro w st; dsimp only [setNth, wr] at st
 refine vc_y rfl rfl (y_nck rfl) ?_
 refine vc_y rfl rfl ((by exact y_faz (k := 1) rfl Tryz.underlying56 rfl rfl Tryz.sizeOf9 rfl)) ?_
 refine vc_e (e_st st 1 rfl rfl rfl rfl Tryz.sizeOf9 rfl rfl (by first | (right; assumption) | (left; simp)) ?_)
 intro w st; dsimp only [setNth, wr] at st
 refine vc_end (vq_then (vc_keep [(0, _), (1, _)] ⟨rfl, rfl, trivial⟩ (vc_seq (vc_region ?_))))
 refine vc_y rfl rfl (y_mv rfl) ?_
 refine vc_e (e_bs1 (l := [_]) st rfl rfl rfl rfl Tryz.underlying96 Tryz.sizeOf9 rfl rfl rfl Tryz.zeroValue9 ?_)
 intro b14 w hb14 st
 refine vc_e (e_callp [_, _] rfl rfl Tryz.call41 rfl (pwant_any c [[61]] (by simp) _ _ _ _ rfl r1 hr1 _ (KC st.chg) (by exact st.res (i := 1) rfl) hR (st.res (i := 0) rfl) (by exact st.bne 0 1 (by decide) rfl rfl)) (by rintro _ w' ⟨f, hf, rfl, ch⟩ a ha; rw [wantL_one] at hf; exact And.intro ha (Or.inr ⟨_, rfl, f, by rw [hs, hf], rfl, st.chg.trans (ch.mono (by simp))⟩)) ?_)
 rintro _ w ⟨r2, hx, hsfr2, hlnr2, hP1, cw⟩
 rw [wantL_one] at hx
 rw [hx] at hs; dsimp only at hs
 replace st := St.prs (b := c.pb) st 1 rfl cw (.inl (.head _)) hP1
 dsimp only [setNth] at st
 have hr2 := hsfr2.trans hr1
 refine vc_end (vq_then (vc_keep [(0, _), (1, _)] ⟨rfl, rfl, trivial⟩ (vc_seq (vc_seq (vc_region ?_)))))
 refine vc_y rfl rfl (y_mv rfl) ?_
 refine vc_e (e_call [_, _] rfl rfl Tryz.call23 rfl (ptake_any c wSwap r2 hr2 _ (KC st.chg) (by exact st.res (i := 1) rfl)) ?_)
 rintro _ w ⟨rfl, hP1, cw⟩
 replace st := St.prs (b := c.pb) st 1 rfl cw (.inl (.head _)) hP1
 dsimp only [setNth] at st
 refine vc_y rfl rfl (y_not rfl) ?_
 refine vc_end (vq_then (vc_keep [(0, _), (1, _), (18, _)] ⟨rfl, rfl, rfl, trivial⟩ ?_))
 refine vc_ifs rfl ?_ ?_
 ·
  intro hc18
  try simp only [dn] at hc18
  have hF : isT wSwap r2 = false := by simpa using hc18
  simp only [hF, Bool.false_eq_true, if_false] at st hs
  refine vc_seq (vc_region ?_)
  iterate 2 refine vc_y rfl rfl (y_mv rfl) ?_
  refine vc_e (e_callp [_, _] rfl rfl Tryz.call92 rfl (pexpr_any c hR hg r2 hr2 _ (KC st.chg) (by exact st.res (i := 1) rfl)) (by rintro _ w' ⟨f, hf, rfl, ch⟩ a ha; exact And.intro ha (Or.inr ⟨_, rfl, f, by rw [hs, hf], rfl, st.chg.trans (ch.mono (by simp))⟩)) ?_)
  rintro _ w ⟨x, r3, hx, hsfr3, hlnr3, hP1, cw, ox, cx, Sx, rfl, hQ, hN⟩
  have hNSx := hN.le st.chg.size
  replace st := St.prsT (b := c.pb) st 1 rfl cw (.inl (.head _)) hP1 (holds_ex hQ) hN.2
  dsimp only [setNth] at st
  rw [hx] at hs; dsimp only at hs
  have hr3 := hsfr3.trans hr2
  refine vc_e (e_bs1 (l := [_, _, _, _, _, _]) st rfl rfl rfl rfl Tryz.underlying54 Tryz.sizeOf60 rfl rfl rfl Tryz.zeroValue60 ?_)
  intro b22 w hb22 st
  have hE := ex_one (st.res (i := 0) rfl) (st.res (i := 1) rfl).1
  have hNe : Nw w0.heap.size (b22 :: Sx) := Nw.app (S := [b22]) ⟨by simp, by simpa using hb22⟩ hNSx (fun b hb hb' => st.ne (i := 0) (j := 1) (by decide) rfl rfl b hb hb')
  replace st := st.join (q := .tree (b22 :: Sx) fun w => ExR 60 w (some ⟨b22, 0, none⟩) 1 [x] (b22 :: Sx)) (fun k hk => by
    rcases List.mem_cons.1 hk with rfl | hk
    · exact .inl (.head _)
    · exact .inr hk) (holds_ex hE)
  refine vc_y rfl rfl (y_nck rfl) ?_
  refine vc_y rfl rfl ((by exact y_faz (k := 3) rfl Tryz.underlying56 rfl rfl Tryz.sizeOf54 rfl)) ?_
  refine vc_e (e_st st 3 rfl rfl rfl rfl Tryz.sizeOf54 rfl rfl (by first | (right; assumption) | (left; simp)) ?_)
  intro w st; dsimp only [setNth, wr] at st
  refine vc_end (vq_then (vc_keep [(0, _)] ⟨rfl, trivial⟩ (vc_seq (vc_region ?_))))
  refine vc_y rfl rfl (y_mv rfl) ?_
  refine vc_e (e_bs1 (l := [_]) st rfl rfl rfl rfl Tryz.underlying96 Tryz.sizeOf9 rfl rfl rfl Tryz.zeroValue9 ?_)
  intro b26 w hb26 st
  refine vc_e (e_callp [_, _] rfl rfl Tryz.call41 rfl (pwant_any c [[59]] (by simp) _ _ _ _ rfl r3 hr3 _ (KC st.chg) (by exact st.res (i := 3) rfl) hR (st.res (i := 0) rfl) (by exact st.bne 0 3 (by decide) rfl rfl)) (by rintro _ w' ⟨f, hf, rfl, ch⟩ a ha; rw [wantL_one] at hf; exact And.intro ha (Or.inr ⟨_, rfl, f, by rw [hs, hf], rfl, st.chg.trans (ch.mono (by simp))⟩)) ?_)
  rintro _ w ⟨r4, hx, hsfr4, hlnr4, hP1, cw⟩
  rw [wantL_one] at hx
  rw [hx] at hs; dsimp only at hs
  replace st := St.prs (b := c.pb) st 3 rfl cw (.inl (.head _)) hP1
  dsimp only [setNth] at st
  have hr4 := hsfr4.trans hr3
  refine vc_end (vq_then (vc_keep [] trivial (vc_ret (vq_then_ret ?_))))
  refine vq_ret0 (.inl rfl) Tryz.results73 ?_
  refine .inl ⟨_, rfl, ?_⟩
  exact ⟨_, r4, hs, hsfr4.trans (hsfr3.trans (hsfr2.trans hsfr1)), by simp at hlnr4 hlnr2; omega, (by exact st.res (i := 3) rfl), st.chg, some ⟨b22, 0, none⟩, none, none, 1, 0, 0, b22 :: Sx, [], [], (by exact st.res (i := 4) rfl), (by exact (st.res (i := 1) rfl).1), smr_nil, smr_nil, by simpa using hNe⟩
 ·
  intro hc18
  try simp only [dn] at hc18
  have hT : isT wSwap r2 = true := by simpa using hc18
  simp only [hT, if_true] at st hs
  have ht := tail_lt (isT_ne hT)
  have hr3 := suf_tail hr2
  refine vc_code_skip (vq_then (vc_keep [(0, _), (1, _)] ⟨rfl, rfl, trivial⟩ (vc_seq (vc_region ?_))))
  refine vc_y rfl rfl (y_mv rfl) ?_
  refine vc_y rfl rfl (y_nck rfl) ?_
  refine vc_y rfl rfl (y_fa0 rfl Tryz.underlying56 rfl rfl Tryz.sizeOf53 rfl) ?_
  refine vc_e (e_st st 2 rfl rfl rfl rfl Tryz.sizeOf53 rfl rfl (by first | (right; assumption) | (left; simp)) ?_)
  intro w st; dsimp only [setNth, wr] at st
  refine vc_end (vq_then (vc_keep [(0, _), (1, _)] ⟨rfl, rfl, trivial⟩ (vc_seq (vc_region ?_))))
  refine vc_y rfl rfl (y_mv rfl) ?_
  refine vc_e (e_bs1 (l := [_]) st rfl rfl rfl rfl Tryz.underlying96 Tryz.sizeOf9 rfl rfl rfl Tryz.zeroValue9 ?_)
  intro b32 w hb32 st
  refine vc_e (e_callp [_, _] rfl rfl Tryz.call41 rfl (pwant_any c [[40]] (by simp) _ _ _ _ rfl r2.tail hr3 _ (KC st.chg) (by exact st.res (i := 2) rfl) hR (st.res (i := 0) rfl) (by exact st.bne 0 2 (by decide) rfl rfl)) (by rintro _ w' ⟨f, hf, rfl, ch⟩ a ha; rw [wantL_one] at hf; exact And.intro ha (Or.inr ⟨_, rfl, f, by rw [hs, hf], rfl, st.chg.trans (ch.mono (by simp))⟩)) ?_)
  rintro _ w ⟨r4, hx, hsfr4, hlnr4, hP1, cw⟩
  rw [wantL_one] at hx
  rw [hx] at hs; dsimp only at hs
  replace st := St.prs (b := c.pb) st 2 rfl cw (.inl (.head _)) hP1
  dsimp only [setNth] at st
  have hr4 := hsfr4.trans hr3
  refine vc_end (vq_then (vc_keep [(0, _), (1, _)] ⟨rfl, rfl, trivial⟩ (vc_seq (vc_region ?_))))
  iterate 2 refine vc_y rfl rfl (y_mv rfl) ?_
  refine vc_e (e_callp [_] rfl rfl Tryz.call44 rfl (pname_any c hR r4 hr4 _ (KC st.chg) (by exact st.res (i := 2) rfl)) (by rintro _ w' ⟨f, hf, rfl, ch⟩ a ha; exact And.intro ha (Or.inr ⟨_, rfl, f, by rw [hs, hf], rfl, st.chg.trans (ch.mono (by simp))⟩)) ?_)
  rintro _ w ⟨t2, r5, hx, hsf, hln, hP1, cw, rfl⟩
  replace st := St.prs (b := c.pb) st 2 rfl cw (.inl (.head _)) hP1
  dsimp only [setNth] at st
  rw [hx] at hs; dsimp only at hs
  have hr5 := hsf.trans hr4
  have hsfr5 := hsf
  have hlnr5 := hln
  refine vc_y rfl rfl (y_fld rfl Tryz.underlying82 rfl rfl Tryz.isAgg9 rfl) ?_
  refine vc_y rfl rfl (y_nck rfl) ?_
  refine vc_y rfl rfl ((by exact y_faz (k := 2) rfl Tryz.underlying56 rfl rfl Tryz.sizeOf9 rfl)) ?_
  refine vc_e (e_st st 3 rfl rfl rfl rfl Tryz.sizeOf9 rfl rfl (by first | (right; assumption) | (left; simp)) ?_)
  intro w st; dsimp only [setNth, wr] at st
  refine vc_end (vq_then (vc_keep [(0, _), (1, _)] ⟨rfl, rfl, trivial⟩ (vc_seq (vc_region ?_))))
  refine vc_y rfl rfl (y_mv rfl) ?_
  refine vc_e (e_bs1 (l := [_]) st rfl rfl rfl rfl Tryz.underlying96 Tryz.sizeOf9 rfl rfl rfl Tryz.zeroValue9 ?_)
  intro b41 w hb41 st
  refine vc_e (e_callp [_, _] rfl rfl Tryz.call41 rfl (pwant_any c [[44]] (by simp) _ _ _ _ rfl r5 hr5 _ (KC st.chg) (by exact st.res (i := 3) rfl) hR (st.res (i := 0) rfl) (by exact st.bne 0 3 (by decide) rfl rfl)) (by rintro _ w' ⟨f, hf, rfl, ch⟩ a ha; rw [wantL_one] at hf; exact And.intro ha (Or.inr ⟨_, rfl, f, by rw [hs, hf], rfl, st.chg.trans (ch.mono (by simp))⟩)) ?_)
  rintro _ w ⟨r8, hx, hsfr8, hlnr8, hP1, cw⟩
  rw [wantL_one] at hx
  rw [hx] at hs; dsimp only at hs
  replace st := St.prs (b := c.pb) st 3 rfl cw (.inl (.head _)) hP1
  dsimp only [setNth] at st
  have hr8 := hsfr8.trans hr5
  refine vc_end (vq_then (vc_keep [(0, _), (1, _)] ⟨rfl, rfl, trivial⟩ (vc_seq (vc_region ?_))))
  iterate 2 refine vc_y rfl rfl (y_mv rfl) ?_
  refine vc_e (e_callp [_, _] rfl rfl Tryz.call92 rfl (pexpr_any c hR hg r8 hr8 _ (KC st.chg) (by exact st.res (i := 3) rfl)) (by rintro _ w' ⟨f, hf, rfl, ch⟩ a ha; exact And.intro ha (Or.inr ⟨_, rfl, f, by rw [hs, hf], rfl, st.chg.trans (ch.mono (by simp))⟩)) ?_)
  rintro _ w ⟨x, r6, hx, hsfr6, hlnr6, hP1, cw, ox, cx, Sx, rfl, hQ, hN⟩
  have hNSx := hN.le st.chg.size
  replace st := St.prsT (b := c.pb) st 3 rfl cw (.inl (.head _)) hP1 (holds_ex hQ) hN.2
  dsimp only [setNth] at st
  rw [hx] at hs; dsimp only at hs
  have hr6 := hsfr6.trans hr8
  refine vc_e (e_bs1 (l := [_, _, _, _, _, _]) st rfl rfl rfl rfl Tryz.underlying54 Tryz.sizeOf60 rfl rfl rfl Tryz.zeroValue60 ?_)
  intro b46 w hb46 st
  have hE := ex_one (st.res (i := 0) rfl) (st.res (i := 1) rfl).1
  have hNe : Nw w0.heap.size (b46 :: Sx) := Nw.app (S := [b46]) ⟨by simp, by simpa using hb46⟩ hNSx (fun b hb hb' => st.ne (i := 0) (j := 1) (by decide) rfl rfl b hb hb')
  replace st := st.join (q := .tree (b46 :: Sx) fun w => ExR 60 w (some ⟨b46, 0, none⟩) 1 [x] (b46 :: Sx)) (fun k hk => by
    rcases List.mem_cons.1 hk with rfl | hk
    · exact .inl (.head _)
    · exact .inr hk) (holds_ex hE)
  refine vc_y rfl rfl (y_nck rfl) ?_
  refine vc_y rfl rfl ((by exact y_faz (k := 3) rfl Tryz.underlying56 rfl rfl Tryz.sizeOf54 rfl)) ?_
  refine vc_e (e_st st 5 rfl rfl rfl rfl Tryz.sizeOf54 rfl rfl (by first | (right; assumption) | (left; simp)) ?_)
  intro w st; dsimp only [setNth, wr] at st
  refine vc_end (vq_then (vc_keep [(0, _)] ⟨rfl, trivial⟩ (vc_region ?_)))
  refine vc_y rfl rfl (y_mv rfl) ?_
  refine vc_e (e_bsn (l := [str [41], str [59]]) (E := 9) st [(0, _), (1, _)] rfl rfl rfl (fun w => by simp [Instr.buildSlice, run_underlying Tryz.underlying96, Tryz.sizeOf9, Tryz.zeroValue9, Instr.fill, newRow, newObj, Sem.run, go_sem]) ?_)
  intro b50 w hb50 st
  refine vc_e (e_callp [_, _] rfl rfl Tryz.call41 rfl (pwant_any c [[41], [59]] (by simp) _ _ _ _ rfl r6 hr6 _ (KC st.chg) (by exact st.res (i := 5) rfl) hR (st.res (i := 0) rfl) (by exact st.bne 0 5 (by decide) rfl rfl)) (by rintro _ w' ⟨f, hf, rfl, ch⟩ a ha; exact And.intro ha (Or.inr ⟨_, rfl, f, by rw [hs, hf], rfl, st.chg.trans (ch.mono (by simp))⟩)) ?_)
  rintro _ w ⟨r7, hx, hsfr7, hlnr7, hP1, cw⟩
  rw [hx] at hs; dsimp only at hs
  replace st := St.prs (b := c.pb) st 5 rfl cw (.inl (.head _)) hP1
  dsimp only [setNth] at st
  have hr7 := hsfr7.trans hr6
  refine vc_end ?_
  refine vq_ret0 (.inr rfl) Tryz.results73 ?_
  refine .inl ⟨_, rfl, ?_⟩
  exact ⟨_, r7, hs, hsfr7.trans (hsfr6.trans (hsfr8.trans (hsfr5.trans (hsfr4.trans ((List.tail_suffix _).trans (hsfr2.trans hsfr1)))))), by simp at hlnr7 hlnr8 hlnr4 hlnr2; omega, (by exact st.res (i := 5) rfl), st.chg, some ⟨b46, 0, none⟩, none, none, 1, 0, 0, b46 :: Sx, [], [], (by exact st.res (i := 6) rfl), (by exact (st.res (i := 1) rfl).1), smr_nil, smr_nil, by simpa using hNe⟩

end Go.Proofs.YtggnfanphcaamaaGreatDoor

