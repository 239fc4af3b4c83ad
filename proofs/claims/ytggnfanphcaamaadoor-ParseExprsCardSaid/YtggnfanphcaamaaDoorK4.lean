/- A part of the proof: contracts of functions and plain laws; each theorem says its own conditions. -/
import Derived.Test.YtggnfanphcaamaaDoorK3
import Derived.Test.YtggnfanphcaamaaDoorK2
import Derived.Test.YtggnfanphcaamaaDoorK0
namespace Go.Proofs.YtggnfanphcaamaaDoor
open Go.RowKit Sx LexS ParS
set_option linter.unusedVariables false
set_option linter.unusedSimpArgs false
theorem Tryd.info80 : Tryd.prog.info? 80 = some Tryd.t80 := by kernel_rfl

theorem pname_any (c : PCtx) (hR : c.R = 65) (r : List Tok) (hr : r <:+ c.ts) (w : World) (hC : PCok c w) (hP : PAt c r w) : RetP Tryd.prog 87 [.pointer (some ⟨c.pb, 0, none⟩)] w
    (PRes c r (nameP c.e r) [c.pb] w fun t v _ => v = .agg (tkL t).toArray) (PErr c (nameP c.e r) [c.pb] w) := by
  refine retp_of [_] Tryd.func87 rfl Tryd.ntmps87 rfl ?_
  
  obtain ⟨w0, rfl⟩ : ∃ w0, w0 = w := ⟨_, rfl⟩
  have hP' := hP
  dsimp only [PAt, pcell] at hP
  have st := St.of1 [c.pb] hP
  have h20 := hC.len
  have hl := suf_len hr
  refine vc_seq ?_
  refine vc_region ?_
  refine vc_e (e_al (l := [_, _, _, _]) st rfl rfl Tryd.zeroValue53 rfl ?_)
  intro b2 w hb2 st
  refine vc_end ?_
  refine vq_then ?_
  refine vc_keep [(0, _), (2, _)] ⟨rfl, rfl, trivial⟩ ?_
  refine vc_seq ?_
  refine vc_seq ?_
  refine vc_region ?_
  refine vc_y rfl rfl (y_mv rfl) ?_
  refine vc_e (e_call [_] rfl rfl Tryd.call58 rfl (phere_any c r hr _ (hC.k1 st.chg) (by exact st.res (i := 1) rfl)) ?_)
  rintro _ w ⟨rfl, cw⟩
  replace st := st.call0 cw
  refine vc_y rfl rfl (y_fld rfl Tryd.underlying53 rfl rfl Tryd.isAgg51 rfl) ?_
  refine vc_y rfl rfl (y_nei rfl rfl) ?_
  refine vc_end ?_
  refine vq_then ?_
  refine vc_keep [(0, _), (2, _), (6, _)] ⟨rfl, rfl, rfl, trivial⟩ ?_
  refine vc_ifs rfl ?_ ?_
  · intro hc6
    try simp only [dn] at hc6
    have hk : ¬ (here r).kind = 1 := by omega
    have hs : nameP c.e r = fail c.e 2 r := by unfold nameP; rw [if_neg hk]
    refine vc_region ?_
    refine vc_y rfl rfl (y_mv rfl) ?_
    refine vc_e (e_callp [_, _] rfl rfl Tryd.call30 rfl (pfail_any c 2 r hr _ (hC.k1 st.chg) (by exact st.res (i := 1) rfl) hR) (by rintro _ w' ⟨rfl, ch⟩ a ha; exact And.intro ha (Or.inr ⟨_, rfl, (atT c.e r, 2), by rw [hs]; rfl, rfl, st.chg.trans ch.of_nil⟩)) (fun _ _ h => h.elim))
  · intro hc6
    try simp only [dn] at hc6
    have hk : (here r).kind = 1 := by omega
    have hs : nameP c.e r = .ok (here r, r.tail) := by unfold nameP; rw [if_pos hk]
    have hne := kind_ne hk (by decide)
    have hlt := tail_lt hne
    refine vc_code_skip ?_
    refine vq_then ?_
    refine vc_keep [(0, _), (2, _)] ⟨rfl, rfl, trivial⟩ ?_
    refine vc_seq ?_
    refine vc_region ?_
    refine vc_y rfl rfl (y_mv rfl) ?_
    refine vc_e (e_call [_] rfl rfl Tryd.call60 rfl (pnext_any c r hr hne _ (hC.k1 st.chg) (by exact st.res (i := 1) rfl)) ?_)
    rintro _ w ⟨rfl, hP1, cw⟩
    first
    | replace st := St.prs (b := c.pb) st 0 rfl cw (.inl (.head _)) hP1
    | replace st := St.prs (b := c.pb) st 1 rfl cw (.inl (.head _)) hP1
    | replace st := St.prs (b := c.pb) st 2 rfl cw (.inl (.head _)) hP1
    | replace st := St.prs (b := c.pb) st 3 rfl cw (.inl (.head _)) hP1
    | replace st := St.prs (b := c.pb) st 4 rfl cw (.inl (.head _)) hP1
    | replace st := St.prs (b := c.pb) st 5 rfl cw (.inl (.head _)) hP1
    dsimp only [setNth] at st
    refine vc_e (e_sts (vs := [_, _, _, _]) st 0 rfl rfl rfl rfl rfl Tryd.sizeOf53 rfl rfl (by first | (right; assumption) | (left; simp)) ?_)
    intro w st; dsimp only [setNth, wr] at st
    refine vc_end ?_
    refine vq_then ?_
    refine vc_keep [(2, _)] ⟨rfl, trivial⟩ ?_
    refine vc_ret ?_
    refine vq_ret1 st (.inl rfl) Tryd.results87 (by exact .cell 0 rfl rfl Tryd.isAgg53 Tryd.sizeOf53) ?_
    refine .inl ⟨_, rfl, ?_⟩
    exact ⟨_, _, hs, List.tail_suffix _, hlt, (by exact st.res (i := 1) rfl), st.chg, rfl⟩

theorem pdecl_any (c : PCtx) (hR : c.R = 65) (r : List Tok) (hr : r <:+ c.ts) (w : World) (hC : PCok c w) (hP : PAt c r w) : RetP Tryd.prog 70 [.pointer (some ⟨c.pb, 0, none⟩)] w
    (PRes c r (declP c.e r) [c.pb] w fun d v _ => v = .agg (dcL d).toArray) (PErr c (declP c.e r) [c.pb] w) := by
  refine retp_of [_] Tryd.func70 rfl Tryd.ntmps70 rfl ?_
  
  obtain ⟨w0, rfl⟩ : ∃ w0, w0 = w := ⟨_, rfl⟩
  have hP' := hP
  dsimp only [PAt, pcell] at hP
  have st := St.of1 [c.pb] hP
  have h20 := hC.len
  have hl := suf_len hr
  have hs := declP.eq_1 c.e r
  refine vc_seq ?_
  refine vc_region ?_
  refine vc_e (e_al (l := [_, _, _]) st rfl rfl Tryd.zeroValue80 rfl ?_)
  intro b2 w hb2 st
  refine vc_end ?_
  refine vq_then ?_
  refine vc_keep [(0, _), (2, _)] ⟨rfl, rfl, trivial⟩ ?_
  refine vc_seq ?_
  refine vc_region ?_
  refine vc_y rfl rfl (y_mv rfl) ?_
  refine vc_e (e_callp [_] rfl rfl Tryd.call87 rfl (pname_any c hR r hr _ (hC.k1 st.chg) (by exact st.res (i := 1) rfl)) (by rintro _ w' ⟨f, hf, rfl, ch⟩ a ha; exact And.intro ha (Or.inr ⟨_, rfl, f, by rw [hs, hf], rfl, st.chg.trans ch⟩)) ?_)
  rintro _ w ⟨t, r1, hx, hsf, hln, hP1, cw, rfl⟩
  first
  | replace st := St.prs (b := c.pb) st 0 rfl cw (.inl (.head _)) hP1
  | replace st := St.prs (b := c.pb) st 1 rfl cw (.inl (.head _)) hP1
  | replace st := St.prs (b := c.pb) st 2 rfl cw (.inl (.head _)) hP1
  | replace st := St.prs (b := c.pb) st 3 rfl cw (.inl (.head _)) hP1
  | replace st := St.prs (b := c.pb) st 4 rfl cw (.inl (.head _)) hP1
  | replace st := St.prs (b := c.pb) st 5 rfl cw (.inl (.head _)) hP1
  dsimp only [setNth] at st
  rw [hx] at hs; dsimp only at hs
  have hr1 := hsf.trans hr
  refine vc_e (e_al (l := [_, _, _, _]) st rfl rfl Tryd.zeroValue53 rfl ?_)
  intro b3 w hb3 st
  refine vc_e (e_sts (vs := [_, _, _, _]) st 0 rfl rfl rfl rfl rfl Tryd.sizeOf53 rfl rfl (by first | (right; assumption) | (left; simp)) ?_)
  intro w st; dsimp only [setNth, wr] at st
  refine vc_end ?_
  refine vq_then ?_
  refine vc_keep [(2, _), (3, _)] ⟨rfl, rfl, trivial⟩ ?_
  refine vc_seq ?_
  refine vc_region ?_
  refine vc_y rfl rfl ((by exact y_faz (k := 1) rfl Tryd.underlying53 rfl rfl Tryd.sizeOf9 rfl)) ?_
  refine vc_y rfl rfl ((by exact y_ld st 0 rfl Tryd.isAgg9 rfl rfl)) ?_
  refine vc_y rfl rfl ((by exact y_faz (k := 3) rfl Tryd.underlying53 rfl rfl Tryd.sizeOf3 rfl)) ?_
  refine vc_y rfl rfl ((by exact y_ld st 0 rfl Tryd.isAgg3 rfl rfl)) ?_
  refine vc_y rfl rfl (y_bld (.agg #[_, _, _]) [(0, _), (2, _)] rfl (fun w => by simp [Instr.build, go_sem] <;> repeat' constructor)) ?_
  refine vc_e (e_sts (vs := [_, _, _]) st 1 rfl rfl rfl rfl rfl Tryd.sizeOf80 rfl rfl (by first | (right; assumption) | (left; simp)) ?_)
  intro w st; dsimp only [setNth, wr] at st
  refine vc_end ?_
  refine vq_then ?_
  refine vc_keep [(2, _)] ⟨rfl, trivial⟩ ?_
  refine vc_ret ?_
  refine vq_ret1 st (.inl rfl) Tryd.results70 (by exact .cell 1 rfl rfl Tryd.isAgg80 Tryd.sizeOf80) ?_
  refine .inl ⟨_, rfl, ?_⟩
  exact ⟨_, _, hs, hsf, hln, (by exact st.res (i := 2) rfl), st.chg, rfl⟩

theorem pinit_any (c : PCtx) (hR : c.R = 65) (r : List Tok) (hr : r <:+ c.ts) (w : World) (hC : PCok c w) (hP : PAt c r w) : RetP Tryd.prog 69 [.pointer (some ⟨c.pb, 0, none⟩)] w
    (PRes c r (initP c.e r) [c.pb] w fun d v _ => v = .agg (dcL d).toArray) (PErr c (initP c.e r) [c.pb] w) := by
  refine retp_of [_] Tryd.func69 rfl Tryd.ntmps69 rfl ?_
  
  obtain ⟨w0, rfl⟩ : ∃ w0, w0 = w := ⟨_, rfl⟩
  have hP' := hP
  dsimp only [PAt, pcell] at hP
  have st := St.of1 [c.pb] hP
  have h20 := hC.len
  have hl := suf_len hr
  have hs := initP.eq_1 c.e r
  unfold declP at *
  refine vc_seq ?_
  refine vc_region ?_
  refine vc_e (e_al (l := [_, _, _]) st rfl rfl Tryd.zeroValue80 rfl ?_)
  intro b2 w hb2 st
  refine vc_end ?_
  refine vq_then ?_
  refine vc_keep [(0, _), (2, _)] ⟨rfl, rfl, trivial⟩ ?_
  refine vc_seq ?_
  refine vc_region ?_
  refine vc_y rfl rfl (y_mv rfl) ?_
  refine vc_e (e_callp [_] rfl rfl Tryd.call70 rfl (pdecl_any c hR r hr _ (hC.k1 st.chg) (by exact st.res (i := 1) rfl)) (by rintro _ w' ⟨f, hf, rfl, ch⟩ a ha; exact And.intro ha (Or.inr ⟨_, rfl, f, (by rw [hs]; unfold declP at hf; cases hn : nameP c.e r with | error g => rw [hn] at hf; exact hf | ok q => rw [hn] at hf; cases hf), rfl, st.chg.trans ch⟩)) ?_)
  rintro _ w ⟨d, r1, hx, hsf, hln, hP1, cw, rfl⟩
  first
  | replace st := St.prs (b := c.pb) st 0 rfl cw (.inl (.head _)) hP1
  | replace st := St.prs (b := c.pb) st 1 rfl cw (.inl (.head _)) hP1
  | replace st := St.prs (b := c.pb) st 2 rfl cw (.inl (.head _)) hP1
  | replace st := St.prs (b := c.pb) st 3 rfl cw (.inl (.head _)) hP1
  | replace st := St.prs (b := c.pb) st 4 rfl cw (.inl (.head _)) hP1
  | replace st := St.prs (b := c.pb) st 5 rfl cw (.inl (.head _)) hP1
  dsimp only [setNth] at st
  obtain ⟨t, hn, rfl⟩ : ∃ t, nameP c.e r = .ok (t, r1) ∧ d = ⟨t.text, 0, (t.at_ : Int)⟩ := by
    unfold declP at hx
    cases hn : nameP c.e r with
    | error g => rw [hn] at hx; cases hx
    | ok q => rw [hn] at hx; cases hx; exact ⟨q.1, rfl, rfl⟩
  rw [hn] at hs; dsimp only at hs
  have hr1 := hsf.trans hr
  refine vc_e (e_al (l := [_, _, _]) st rfl rfl Tryd.zeroValue80 rfl ?_)
  intro b3 w hb3 st
  refine vc_e (e_sts (vs := [_, _, _]) st 0 rfl rfl rfl rfl rfl Tryd.sizeOf80 rfl rfl (by first | (right; assumption) | (left; simp)) ?_)
  intro w st; dsimp only [setNth, wr] at st
  refine vc_end ?_
  refine vq_then ?_
  refine vc_keep [(0, _), (2, _), (3, _)] ⟨rfl, rfl, rfl, trivial⟩ ?_
  refine vc_seq ?_
  refine vc_seq ?_
  refine vc_region ?_
  refine vc_y rfl rfl (y_mv rfl) ?_
  refine vc_e (e_call [_, _] rfl rfl Tryd.call67 rfl (ptake_any c [61] r1 hr1 _ (hC.k1 st.chg) (by exact st.res (i := 2) rfl)) ?_)
  rintro _ w ⟨rfl, hP1, cw⟩
  first
  | replace st := St.prs (b := c.pb) st 0 rfl cw (.inl (.head _)) hP1
  | replace st := St.prs (b := c.pb) st 1 rfl cw (.inl (.head _)) hP1
  | replace st := St.prs (b := c.pb) st 2 rfl cw (.inl (.head _)) hP1
  | replace st := St.prs (b := c.pb) st 3 rfl cw (.inl (.head _)) hP1
  | replace st := St.prs (b := c.pb) st 4 rfl cw (.inl (.head _)) hP1
  | replace st := St.prs (b := c.pb) st 5 rfl cw (.inl (.head _)) hP1
  dsimp only [setNth] at st
  refine vc_y rfl rfl (y_not rfl) ?_
  refine vc_end ?_
  refine vq_then ?_
  refine vc_keep [(0, _), (2, _), (3, _), (9, _)] ⟨rfl, rfl, rfl, rfl, trivial⟩ ?_
  refine vc_ifs rfl ?_ ?_
  · intro hc9
    try simp only [dn] at hc9
    have hF : isT [61] r1 = false := by simpa using hc9
    simp only [hF, Bool.false_eq_true, if_false] at st hs
    refine vc_seq ?_
    refine vc_region ?_
    refine vc_y rfl rfl ((by exact y_lda (vs := [_, _, _]) st 0 rfl Tryd.isAgg80 Tryd.sizeOf80 rfl rfl)) ?_
    refine vc_e (e_sts (vs := [_, _, _]) st 1 rfl rfl rfl rfl rfl Tryd.sizeOf80 rfl rfl (by first | (right; assumption) | (left; simp)) ?_)
    intro w st; dsimp only [setNth, wr] at st
    refine vc_end ?_
    refine vq_then ?_
    refine vc_keep [(2, _)] ⟨rfl, trivial⟩ ?_
    refine vc_ret ?_
    refine vq_then_ret ?_
    refine vq_ret1 st (.inl rfl) Tryd.results69 (by exact .cell 1 rfl rfl Tryd.isAgg80 Tryd.sizeOf80) ?_
    refine .inl ⟨_, rfl, ?_⟩
    exact ⟨_, _, hs, hsf, hln, (by exact st.res (i := 2) rfl), st.chg, rfl⟩
  · intro hc9
    try simp only [dn] at hc9
    have hT : isT [61] r1 = true := by simpa using hc9
    simp only [hT, if_true] at st hs
    have ht := tail_lt (isT_ne hT)
    have hr2 := suf_tail hr1
    refine vc_code_skip ?_
    refine vq_then ?_
    refine vc_keep [(0, _), (2, _), (3, _)] ⟨rfl, rfl, rfl, trivial⟩ ?_
    refine vc_seq ?_
    refine vc_region ?_
    refine vc_y rfl rfl (y_mv rfl) ?_
    refine vc_e (e_call [_, _] rfl rfl Tryd.call67 rfl (ptake_any c [45] r1.tail hr2 _ (hC.k1 st.chg) (by exact st.res (i := 2) rfl)) ?_)
    rintro _ w ⟨rfl, hP1, cw⟩
    first
    | replace st := St.prs (b := c.pb) st 0 rfl cw (.inl (.head _)) hP1
    | replace st := St.prs (b := c.pb) st 1 rfl cw (.inl (.head _)) hP1
    | replace st := St.prs (b := c.pb) st 2 rfl cw (.inl (.head _)) hP1
    | replace st := St.prs (b := c.pb) st 3 rfl cw (.inl (.head _)) hP1
    | replace st := St.prs (b := c.pb) st 4 rfl cw (.inl (.head _)) hP1
    | replace st := St.prs (b := c.pb) st 5 rfl cw (.inl (.head _)) hP1
    dsimp only [setNth] at st
    obtain ⟨r3, hr3e⟩ : ∃ r3, r3 = (if isT [45] r1.tail = true then r1.tail.tail else r1.tail) := ⟨_, rfl⟩
    have hsf3 : r3 <:+ r1.tail := by rw [hr3e]; split; exact List.tail_suffix _; exact List.suffix_refl _
    rw [← hr3e] at st hs
    have hr3 := hsf3.trans hr2
    unfold wordP at hs
    refine vc_y rfl rfl (y_as rfl) ?_
    refine vc_end ?_
    refine vq_then ?_
    refine vc_keep [(0, _), (2, _), (3, _), (4, _)] ⟨rfl, rfl, rfl, rfl, trivial⟩ ?_
    refine vc_seq ?_
    refine vc_seq ?_
    refine vc_region ?_
    refine vc_y rfl rfl (y_mv rfl) ?_
    refine vc_e (e_call [_] rfl rfl Tryd.call58 rfl (phere_any c r3 hr3 _ (hC.k1 st.chg) (by exact st.res (i := 2) rfl)) ?_)
    rintro _ w ⟨rfl, cw⟩
    replace st := st.call0 cw
    refine vc_y rfl rfl (y_fld rfl Tryd.underlying53 rfl rfl Tryd.isAgg51 rfl) ?_
    refine vc_y rfl rfl (y_nei rfl rfl) ?_
    refine vc_end ?_
    refine vq_then ?_
    refine vc_keep [(0, _), (2, _), (3, _), (4, _), (16, _)] ⟨rfl, rfl, rfl, rfl, rfl, trivial⟩ ?_
    refine vc_ifs rfl ?_ ?_
    · intro hc16
      try simp only [dn] at hc16
      have hk : ¬ (here r3).kind = 3 := by omega
      rw [if_neg hk] at hs
      refine vc_region ?_
      refine vc_y rfl rfl (y_mv rfl) ?_
      refine vc_e (e_callp [_, _] rfl rfl Tryd.call30 rfl (pfail_any c 2 r3 hr3 _ (hC.k1 st.chg) (by exact st.res (i := 2) rfl) hR) (by rintro _ w' ⟨rfl, ch⟩ a ha; exact And.intro ha (Or.inr ⟨_, rfl, (atT c.e r3, 2), by rw [hs]; rfl, rfl, st.chg.trans ch.of_nil⟩)) (fun _ _ h => h.elim))
    · intro hc16
      try simp only [dn] at hc16
      have hk : (here r3).kind = 3 := by omega
      rw [if_pos hk] at hs; dsimp only at hs
      have hne := kind_ne hk (by decide)
      have hlt := tail_lt hne
      have hle3 := hsf3.length_le
      refine vc_code_skip ?_
      refine vq_then ?_
      refine vc_keep [(0, _), (2, _), (3, _), (4, _)] ⟨rfl, rfl, rfl, rfl, trivial⟩ ?_
      refine vc_seq ?_
      refine vc_region ?_
      refine vc_y rfl rfl (y_mv rfl) ?_
      refine vc_e (e_call [_] rfl rfl Tryd.call60 rfl (pnext_any c r3 hr3 hne _ (hC.k1 st.chg) (by exact st.res (i := 2) rfl)) ?_)
      rintro _ w ⟨rfl, hP1, cw⟩
      first
      | replace st := St.prs (b := c.pb) st 0 rfl cw (.inl (.head _)) hP1
      | replace st := St.prs (b := c.pb) st 1 rfl cw (.inl (.head _)) hP1
      | replace st := St.prs (b := c.pb) st 2 rfl cw (.inl (.head _)) hP1
      | replace st := St.prs (b := c.pb) st 3 rfl cw (.inl (.head _)) hP1
      | replace st := St.prs (b := c.pb) st 4 rfl cw (.inl (.head _)) hP1
      | replace st := St.prs (b := c.pb) st 5 rfl cw (.inl (.head _)) hP1
      dsimp only [setNth] at st
      refine vc_y rfl rfl (y_fld rfl Tryd.underlying53 rfl rfl Tryd.isAgg2 rfl) ?_
      refine vc_y rfl rfl ((by exact y_faz (k := 1) rfl Tryd.underlying80 rfl rfl Tryd.sizeOf2 rfl)) ?_
      refine vc_e (e_st st 0 rfl rfl rfl rfl Tryd.sizeOf2 rfl rfl (by first | (right; assumption) | (left; simp)) ?_)
      intro w st; dsimp only [setNth, wr] at st
      refine vc_end ?_
      refine vq_then ?_
      refine vc_keep [(2, _), (3, _), (4, _)] ⟨rfl, rfl, rfl, trivial⟩ ?_
      refine vc_seq ?_
      refine vc_seq ?_
      refine vc_region ?_
      refine vc_y rfl rfl (y_mv rfl) ?_
      refine vc_end ?_
      refine vq_then ?_
      refine vc_keep [(2, _), (3, _), (23, _)] ⟨rfl, rfl, rfl, trivial⟩ ?_
      refine vc_ifs rfl ?_ ?_
      · intro hc23
        try simp only [dn] at hc23
        rw [if_pos hc23] at hs
        refine vc_region ?_
        refine vc_y rfl rfl ((by exact y_faz (k := 1) rfl Tryd.underlying80 rfl rfl Tryd.sizeOf2 rfl)) ?_
        refine vc_y rfl rfl ((by exact y_ld st 0 rfl Tryd.isAgg2 rfl rfl)) ?_
        refine vc_y rfl rfl (y_neg rfl (neg_i64 (here_wd hC.wd hr3))) ?_
        refine vc_y rfl rfl ((by exact y_faz (k := 1) rfl Tryd.underlying80 rfl rfl Tryd.sizeOf2 rfl)) ?_
        refine vc_e (e_st st 0 rfl rfl rfl rfl Tryd.sizeOf2 rfl rfl (by first | (right; assumption) | (left; simp)) ?_)
        intro w st; dsimp only [setNth, wr] at st
        refine vc_end ?_
        refine vq_then ?_
        refine vc_keep [(2, _), (3, _)] ⟨rfl, rfl, trivial⟩ ?_
        refine vc_seq ?_
        refine vc_region ?_
        refine vc_y rfl rfl ((by exact y_lda (vs := [_, _, _]) st 0 rfl Tryd.isAgg80 Tryd.sizeOf80 rfl rfl)) ?_
        refine vc_e (e_sts (vs := [_, _, _]) st 1 rfl rfl rfl rfl rfl Tryd.sizeOf80 rfl rfl (by first | (right; assumption) | (left; simp)) ?_)
        intro w st; dsimp only [setNth, wr] at st
        refine vc_end ?_
        refine vq_then ?_
        refine vc_keep [(2, _)] ⟨rfl, trivial⟩ ?_
        refine vc_ret ?_
        refine vq_ret1 st (.inl rfl) Tryd.results69 (by exact .cell 1 rfl rfl Tryd.isAgg80 Tryd.sizeOf80) ?_
        refine .inl ⟨_, rfl, ?_⟩
        exact ⟨_, _, hs, (List.tail_suffix _).trans (hsf3.trans ((List.tail_suffix _).trans hsf)), by omega, (by exact st.res (i := 2) rfl), st.chg, rfl⟩
      · intro hc23
        try simp only [dn] at hc23
        rw [if_neg (by rw [hc23]; simp)] at hs
        refine vc_code_skip ?_
        refine vq_then ?_
        refine vc_keep [(2, _), (3, _)] ⟨rfl, rfl, trivial⟩ ?_
        refine vc_seq ?_
        refine vc_region ?_
        refine vc_y rfl rfl ((by exact y_lda (vs := [_, _, _]) st 0 rfl Tryd.isAgg80 Tryd.sizeOf80 rfl rfl)) ?_
        refine vc_e (e_sts (vs := [_, _, _]) st 1 rfl rfl rfl rfl rfl Tryd.sizeOf80 rfl rfl (by first | (right; assumption) | (left; simp)) ?_)
        intro w st; dsimp only [setNth, wr] at st
        refine vc_end ?_
        refine vq_then ?_
        refine vc_keep [(2, _)] ⟨rfl, trivial⟩ ?_
        refine vc_ret ?_
        refine vq_ret1 st (.inl rfl) Tryd.results69 (by exact .cell 1 rfl rfl Tryd.isAgg80 Tryd.sizeOf80) ?_
        refine .inl ⟨_, rfl, ?_⟩
        exact ⟨_, _, hs, (List.tail_suffix _).trans (hsf3.trans ((List.tail_suffix _).trans hsf)), by omega, (by exact st.res (i := 2) rfl), st.chg, rfl⟩

/-- a reader of one thing, as a method's value -/
def Reader (c : PCtx) (fo : FuncId) (F : List Tok → PR Dc) : Prop := ∀ (r : List Tok) (hr : r <:+ c.ts) (w : World) (hC : PCok c w) (hP : PAt c r w), RetP Tryd.prog fo [.pointer (some ⟨c.pb, 0, none⟩)] w
    (PRes c r (F r) [c.pb] w fun d v _ => v = .agg (dcL d).toArray) (PErr c (F r) [c.pb] w)
/-- a list's end, so much having come -/
def contL (e : Nat) (one : List Tok → PR Dc) (n : Nat) (acc : List Dc) (r : List Tok) : PR (List Dc) := if isT [44] r = true then (match listP e one n r.tail with
    | .error f => .error f
    | .ok (l, r') => .ok (acc ++ l, r'))
  else match want e [59] r with
    | .error f => .error f
    | .ok r' => .ok (acc, r')
theorem listP_cont (e : Nat) (one : List Tok → PR Dc) (n : Nat) (ts : List Tok) : listP e one (n + 1) ts = match one ts with
    | .error f => .error f
    | .ok (d, r) => contL e one n [d] r := by
  rw [listP]
  cases one ts with
  | error f => rfl
  | ok q => simp only [contL, List.singleton_append]; rfl
theorem contL_step (e : Nat) (one : List Tok → PR Dc) (n : Nat) (acc : List Dc) (r : List Tok) (h : isT [44] r = true) : contL e one (n + 1) acc r = match one r.tail with
    | .error f => .error f
    | .ok (d, r') => contL e one n (acc ++ [d]) r' := by
  rw [contL, if_pos h, listP_cont]
  cases one r.tail with
  | error f => rfl
  | ok q =>
    by_cases hc : isT [44] q.2 = true
    · simp only [contL, if_pos hc]
      cases listP e one n q.2.tail with
      | error f => rfl
      | ok q2 => simp
    · simp only [contL, if_neg hc]
      cases want e [59] q.2 with
      | error f => rfl
      | ok r2 => simp
theorem contL_end (e : Nat) (one : List Tok → PR Dc) (n : Nat) (acc : List Dc) (r : List Tok) (h : isT [44] r = false) : contL e one n acc r = match want e [59] r with
    | .error f => .error f
    | .ok r' => .ok (acc, r') := by rw [contL, if_neg (by simp [h])]

theorem plist_any (c : PCtx) (hR : c.R = 65) (fo : FuncId) (F : List Tok → PR Dc) (hcf : ∀ (az : Array Value) w, (callFunc fo az).run Tryd.prog w = .ok (.enter fo az) w) (hF : Reader c fo F) (n : Nat) (r : List Tok) (hn : r.length < n) (hr : r <:+ c.ts) (w : World) (hC : PCok c w) (hP : PAt c r w) :
    RetP Tryd.prog 68 [.pointer (some ⟨c.pb, 0, none⟩), .func (.func fo) [.pointer (some ⟨c.pb, 0, none⟩)].toArray #[]] w
    (PRes c r (listP c.e F n r) [c.pb] w fun ds v w' => ∃ oa cap Sq, v = .slice oa ds.length cap ∧ DcR 80 w' oa cap ds Sq ∧ Nw w.heap.size Sq) (PErr c (listP c.e F n r) [c.pb] w) := by
  obtain ⟨n, rfl⟩ : ∃ m, n = m + 1 := ⟨n - 1, by omega⟩
  refine retp_of [_, _] Tryd.func68 rfl Tryd.ntmps68 rfl ?_
  
  obtain ⟨w0, rfl⟩ : ∃ w0, w0 = w := ⟨_, rfl⟩
  have hP' := hP
  dsimp only [PAt, pcell] at hP
  have st := St.of1 [c.pb] hP
  have h20 := hC.len
  have hl := suf_len hr
  have hs := listP_cont c.e F n r
  refine vc_seq ?_
  refine vc_region ?_
  refine vc_y rfl rfl (y_as rfl) ?_
  refine vc_end ?_
  refine vq_then ?_
  refine vc_keep [(0, _), (1, _)] ⟨rfl, rfl, trivial⟩ ?_
  refine vc_seq ?_
  refine vc_region ?_
  refine vc_y rfl rfl (y_mv rfl) ?_
  refine vc_e (e_callvp [] rfl rfl rfl hcf rfl (hF r hr _ (hC.k1 st.chg) (by exact st.res (i := 0) rfl)) (by rintro _ w' ⟨f, hf, rfl, ch⟩ a ha; exact And.intro ha (Or.inr ⟨_, rfl, f, by rw [hs, hf], rfl, st.chg.trans ch⟩)) ?_)
  rintro _ w ⟨d0, r1, hx, hsf, hln, hP1, cw, rfl⟩
  first
  | replace st := St.prs (b := c.pb) st 0 rfl cw (.inl (.head _)) hP1
  | replace st := St.prs (b := c.pb) st 1 rfl cw (.inl (.head _)) hP1
  | replace st := St.prs (b := c.pb) st 2 rfl cw (.inl (.head _)) hP1
  | replace st := St.prs (b := c.pb) st 3 rfl cw (.inl (.head _)) hP1
  | replace st := St.prs (b := c.pb) st 4 rfl cw (.inl (.head _)) hP1
  | replace st := St.prs (b := c.pb) st 5 rfl cw (.inl (.head _)) hP1
  dsimp only [setNth] at st
  rw [hx] at hs; dsimp only at hs
  have hr1 := hsf.trans hr
  refine vc_e (e_bs1 (l := [_, _, _]) st rfl rfl rfl rfl Tryd.underlying41 Tryd.sizeOf80 rfl rfl rfl Tryd.zeroValue80 ?_)
  intro b8 w hb8 st
  replace st := st.toOwn (len := 1) (size := 3) hb8 rfl (by unfold maxLen; omega)
  refine vc_y rfl rfl (y_as rfl) ?_
  refine vc_end ?_
  refine vq_then ?_
  refine vc_keep [(0, _), (1, _), (5, _)] ⟨rfl, rfl, rfl, trivial⟩ ?_
  refine vc_seq ?_
  refine vc_block ?_
  refine vc_loop (w0 := w0) (M := [c.pb]) (fun (y : Nat × List Dc × List Tok × Option Addr × Nat) => [(0, .pointer (some ⟨c.pb, 0, none⟩)), (1, .func (.func fo) [.pointer (some ⟨c.pb, 0, none⟩)].toArray #[]), (5, .slice y.2.2.2.1 y.2.1.length y.2.2.2.2)]) (fun y => [.own (.slice y.2.2.2.1 y.2.1.length y.2.2.2.2) 80 3 y.2.1.length (y.2.1.flatMap dcL), .blk c.pb (.cells (pcell c y.2.2.1).toArray c.T (0, 0))]) (fun y _ => y.2.2.1 <:+ r ∧ y.2.2.1.length + y.2.1.length ≤ r.length ∧ y.2.2.1.length < y.1 + 1 ∧ listP c.e F (n + 1) r = contL c.e F y.1 y.2.1 y.2.2.1) (fun y => y.2.2.1.length) (n, [d0], r1, _, _) ⟨rfl, rfl, rfl, trivial⟩ (by simpa [dcL] using st) ⟨hsf, by simp; omega, by dsimp only; omega, hs⟩ ?_
  clear st hs
  rintro ⟨m, acc, r2, oq, cq⟩ w ⟨hsf2, hl2, hm2, hs⟩ st
  dsimp only at hsf2 hl2 hm2 hs st
  have hr2 := hsf2.trans hr
  refine vc_seq ?_
  refine vc_seq ?_
  refine vc_region ?_
  refine vc_y rfl rfl (y_mv rfl) ?_
  refine vc_e (e_call [_, _] rfl rfl Tryd.call67 rfl (ptake_any c [44] r2 hr2 _ (hC.k1 st.chg) (by exact st.res (i := 1) rfl)) ?_)
  rintro _ w ⟨rfl, hP1, cw⟩
  first
  | replace st := St.prs (b := c.pb) st 0 rfl cw (.inl (.head _)) hP1
  | replace st := St.prs (b := c.pb) st 1 rfl cw (.inl (.head _)) hP1
  | replace st := St.prs (b := c.pb) st 2 rfl cw (.inl (.head _)) hP1
  | replace st := St.prs (b := c.pb) st 3 rfl cw (.inl (.head _)) hP1
  | replace st := St.prs (b := c.pb) st 4 rfl cw (.inl (.head _)) hP1
  | replace st := St.prs (b := c.pb) st 5 rfl cw (.inl (.head _)) hP1
  dsimp only [setNth] at st
  refine vc_end ?_
  refine vq_then ?_
  refine vc_keep [(0, _), (1, _), (5, _), (10, _)] ⟨rfl, rfl, rfl, rfl, trivial⟩ ?_
  refine vc_ifs rfl ?_ ?_
  · intro hc10
    try simp only [dn] at hc10
    simp only [hc10, if_true] at st
    have ht := tail_lt (isT_ne hc10)
    have hr3 := suf_tail hr2
    obtain ⟨m, rfl⟩ : ∃ k, m = k + 1 := ⟨m - 1, by omega⟩
    rw [contL_step _ _ _ _ _ hc10] at hs
    refine vc_code_skip ?_
    refine vq_then ?_
    refine vc_keep [(0, _), (1, _), (5, _)] ⟨rfl, rfl, rfl, trivial⟩ ?_
    refine vc_block ?_
    refine vc_region ?_
    refine vc_y rfl rfl (y_mv rfl) ?_
    refine vc_y rfl rfl (y_mv rfl) ?_
    refine vc_e (e_callvp [] rfl rfl rfl hcf rfl (hF r2.tail hr3 _ (hC.k1 st.chg) (by exact st.res (i := 1) rfl)) (by rintro _ w' ⟨f, hf, rfl, ch⟩ a ha; exact And.intro ha (Or.inr ⟨_, rfl, f, by rw [hs, hf], rfl, st.chg.trans ch⟩)) ?_)
    rintro _ w ⟨d1, r4, hx4, hsf4, hln4, hP1, cw, rfl⟩
    first
    | replace st := St.prs (b := c.pb) st 0 rfl cw (.inl (.head _)) hP1
    | replace st := St.prs (b := c.pb) st 1 rfl cw (.inl (.head _)) hP1
    | replace st := St.prs (b := c.pb) st 2 rfl cw (.inl (.head _)) hP1
    | replace st := St.prs (b := c.pb) st 3 rfl cw (.inl (.head _)) hP1
    | replace st := St.prs (b := c.pb) st 4 rfl cw (.inl (.head _)) hP1
    | replace st := St.prs (b := c.pb) st 5 rfl cw (.inl (.head _)) hP1
    dsimp only [setNth] at st
    rw [hx4] at hs; dsimp only at hs
    have hr4 := hsf4.trans hr3
    have h40 := hl2
    have h41 := hr.length_le
    refine vc_e (e_bs1 (l := [_, _, _]) st rfl rfl rfl rfl Tryd.underlying41 Tryd.sizeOf80 rfl rfl rfl Tryd.zeroValue80 ?_)
    intro b14 w hb14 st
    refine vc_e (e_app (bytes := 32) st 1 0 rfl rfl rfl rfl rfl rfl Tryd.underlying41 Tryd.info80 rfl rfl rfl rfl rfl (by simp) rfl rfl (by unfold maxLen; omega) (by omega) ?_)
    intro oaQ capQ w st; dsimp only [setNth] at st
    replace st := st.pick [1, 2] rfl (by decide)
    refine vc_y rfl rfl (y_as rfl) ?_
    refine vc_end ?_
    refine vq_block ?_
    refine vq_again (m, acc ++ [d1], r4, oaQ, capQ)  (by refine ⟨rfl, rfl, ?_, trivial⟩; simp [find, put]) (by simpa [dcL] using st) ?_ ?_
    · exact ⟨(hsf4.trans (List.tail_suffix _)).trans hsf2, by simp; omega, by dsimp only; omega, hs⟩
    · dsimp only; omega
  · intro hc10
    try simp only [dn] at hc10
    simp only [hc10, Bool.false_eq_true, if_false] at st
    rw [contL_end _ _ _ _ _ hc10] at hs
    refine vc_exit ?_
    refine vq_then_exit ?_
    refine vq_then_exit ?_
    refine vq_block_exit ?_
    refine vq_then ?_
    refine vc_keep [(0, _), (5, _)] ⟨rfl, rfl, trivial⟩ ?_
    refine vc_seq ?_
    refine vc_region ?_
    refine vc_y rfl rfl (y_mv rfl) ?_
    refine vc_e (e_bs1 (l := [_]) st rfl rfl rfl rfl Tryd.underlying50 Tryd.sizeOf9 rfl rfl rfl Tryd.zeroValue9 ?_)
    intro b17 w hb17 st
    refine vc_e (e_callp [_, _] rfl rfl Tryd.call81 rfl (pwant_any c [[59]] (by simp) _ _ _ _ rfl r2 hr2 _ (hC.k1 st.chg) (by exact st.res (i := 2) rfl) hR (st.res (i := 0) rfl) (by exact st.bne 0 2 (by decide) rfl rfl)) (by rintro _ w' ⟨f, hf, rfl, ch⟩ a ha; rw [wantL_one] at hf; exact And.intro ha (Or.inr ⟨_, rfl, f, by rw [hs, hf], rfl, st.chg.trans ch⟩)) ?_)
    rintro _ w ⟨r5, hx, hsfr5, hlnr5, hP1, cw⟩
    rw [wantL_one] at hx
    rw [hx] at hs; dsimp only at hs
    first
    | replace st := St.prs (b := c.pb) st 0 rfl cw (.inl (.head _)) hP1
    | replace st := St.prs (b := c.pb) st 1 rfl cw (.inl (.head _)) hP1
    | replace st := St.prs (b := c.pb) st 2 rfl cw (.inl (.head _)) hP1
    | replace st := St.prs (b := c.pb) st 3 rfl cw (.inl (.head _)) hP1
    | replace st := St.prs (b := c.pb) st 4 rfl cw (.inl (.head _)) hP1
    | replace st := St.prs (b := c.pb) st 5 rfl cw (.inl (.head _)) hP1
    dsimp only [setNth] at st
    have hr5 := hsfr5.trans hr2
    refine vc_end ?_
    refine vq_then ?_
    refine vc_keep [(5, _)] ⟨rfl, trivial⟩ ?_
    refine vc_seq ?_
    refine vc_region ?_
    refine vc_y rfl rfl (y_mv rfl) ?_
    refine vc_y rfl rfl (y_as rfl) ?_
    refine vc_end ?_
    refine vq_then ?_
    refine vc_keep [(4, _)] ⟨rfl, trivial⟩ ?_
    refine vc_ret ?_
    refine vq_ret1 st (.inl rfl) Tryd.results68 (.tmp rfl) ?_
    refine .inl ⟨_, rfl, ?_⟩
    have hown := st.ownNw (i := 1) rfl
    exact ⟨_, _, hs, hsfr5.trans hsf2, by simp at hlnr5; omega, (by exact st.res (i := 2) rfl), st.chg, oq, cq, obk oq, rfl, ⟨hown.1, rfl⟩, hown.2⟩

end Go.Proofs.YtggnfanphcaamaaDoor


namespace Go.Proofs.YtggnfanphcaamaaDoor
open Go.RowKit Sx LexS ParS
set_option linter.unusedVariables false
set_option linter.unusedSimpArgs false
theorem Tryd.info112 : Tryd.prog.info? 112 = some Tryd.t112 := by kernel_rfl
/-- an expression's value, and the new memory that it hangs on -/
def HE (w : World) (x : Ex) (v : Value) (w' : World) : Prop := ∃ oq cq Sq, v = .agg (exC x oq cq).toArray ∧ ExR 26 w' oq cq x.kids Sq ∧ Nw w.heap.size Sq
/-- a reader of expressions that lie so deep -/
def DRead (fo : FuncId) (c : PCtx) (d : Nat) (F : List Tok → PR Ex) : Prop := ∀ (r : List Tok) (hr : r <:+ c.ts) (w : World) (hC : PCok c w) (hP : PAt c r w), RetP Tryd.prog fo [.pointer (some ⟨c.pb, 0, none⟩), .int .i64 (d : Int)] w
    (PRes c r (F r) [c.pb] w (HE w)) (PErr c (F r) [c.pb] w)
abbrev ex00 : List Value := [.int .u8 0, .int .u8 0, .int .i64 0, str [], .slice none 0 0, .int .i64 0]

set_option maxHeartbeats 1000000 in
theorem pexpr_of (c : PCtx) (hR : c.R = 65) (hg : c.g = 0) (d m : Nat) (hU : DRead 57 c d (unaryP c.e m)) : DRead 29 c d (exprW (unaryP c.e m)) := by
  intro r hr w hC hP
  refine retp_of [_, _] Tryd.func29 rfl Tryd.ntmps29 rfl ?_
  
  obtain ⟨w0, rfl⟩ : ∃ w0, w0 = w := ⟨_, rfl⟩
  have hP' := hP
  dsimp only [PAt, pcell] at hP
  have st := St.of1 [c.pb] hP
  have h20 := hC.len
  have hl := suf_len hr
  have hs := exprW_cont (unaryP c.e m) r
  replace st := St.pushR (r := .tree [] (fun w => PdSs 26 w [] [] [])) st (Chg.refl _ _) (holds_pd ⟨rfl, rfl⟩) (by simp [Res.at?])
  replace st := st.ownNil 112 8
  refine vc_seq ?_
  refine vc_region ?_
  refine vc_e (e_al (l := [_, _, _, _, _, _]) st rfl rfl Tryd.zeroValue26 rfl ?_)
  intro b4 w hb4 st
  refine vc_end ?_
  refine vq_then ?_
  refine vc_keep [(0, _), (1, _), (4, _)] ⟨rfl, rfl, rfl, trivial⟩ ?_
  refine vc_seq ?_
  refine vc_region ?_
  refine vc_y rfl rfl (y_as rfl) ?_
  refine vc_end ?_
  refine vq_then ?_
  refine vc_keep [(0, _), (1, _), (4, _), (5, _)] ⟨rfl, rfl, rfl, rfl, trivial⟩ ?_
  refine vc_seq ?_
  refine vc_region ?_
  refine vc_y rfl rfl (y_mv rfl) ?_
  refine vc_y rfl rfl (y_mv rfl) ?_
  refine vc_e (e_callp [_, _] rfl rfl Tryd.call57 rfl (hU r hr _ (hC.k1 st.chg) (by exact st.res (i := 3) rfl)) (by rintro _ w' ⟨f, hf, rfl, ch⟩ a ha; exact And.intro ha (Or.inr ⟨_, rfl, f, by rw [hs, hf], rfl, st.chg.trans ch⟩)) ?_)
  rintro _ w ⟨x0, r0, hx, hsfr0, hlnr0, hP1, cw, ox0, cx0, Sx0, rfl, hQ, hN⟩
  have hNSx0 := hN.le st.chg.size
  first
  | replace st := St.prsT (b := c.pb) st 0 rfl cw (.inl (.head _)) hP1 (holds_ex hQ) hN.2
  | replace st := St.prsT (b := c.pb) st 1 rfl cw (.inl (.head _)) hP1 (holds_ex hQ) hN.2
  | replace st := St.prsT (b := c.pb) st 2 rfl cw (.inl (.head _)) hP1 (holds_ex hQ) hN.2
  | replace st := St.prsT (b := c.pb) st 3 rfl cw (.inl (.head _)) hP1 (holds_ex hQ) hN.2
  | replace st := St.prsT (b := c.pb) st 4 rfl cw (.inl (.head _)) hP1 (holds_ex hQ) hN.2
  | replace st := St.prsT (b := c.pb) st 5 rfl cw (.inl (.head _)) hP1 (holds_ex hQ) hN.2
  | replace st := St.prsT (b := c.pb) st 6 rfl cw (.inl (.head _)) hP1 (holds_ex hQ) hN.2
  | replace st := St.prsT (b := c.pb) st 7 rfl cw (.inl (.head _)) hP1 (holds_ex hQ) hN.2
  | replace st := St.prsT (b := c.pb) st 8 rfl cw (.inl (.head _)) hP1 (holds_ex hQ) hN.2
  | replace st := St.prsT (b := c.pb) st 9 rfl cw (.inl (.head _)) hP1 (holds_ex hQ) hN.2
  dsimp only [setNth] at st
  rw [hx] at hs; dsimp only at hs
  refine vc_e (e_al (l := [_, _, _, _, _, _]) st rfl rfl Tryd.zeroValue26 rfl ?_)
  intro b6 w hb6 st
  refine vc_e (e_sts (vs := [_, _, _, _, _, _]) st 0 rfl rfl rfl rfl rfl Tryd.sizeOf26 rfl rfl (by first | (right; assumption) | (left; simp)) ?_)
  intro w st; dsimp only [setNth, wr] at st
  refine vc_end ?_
  refine vq_then ?_
  refine vc_keep [(0, _), (1, _), (4, _), (5, _), (6, _)] ⟨rfl, rfl, rfl, rfl, rfl, trivial⟩ ?_
  refine vc_block ?_
  refine vc_loop (w0 := w0) (M := [c.pb]) (fun (y : ESt) => [(0, .pointer (some ⟨c.pb, 0, none⟩)), (1, .int .i64 (d : Int)), (4, .pointer (some ⟨b4, 0, none⟩)), (5, .slice y.ow y.W.length y.cw), (6, .pointer (some ⟨b6, 0, none⟩))]) (fun (y : ESt) => [.own (.slice y.ow y.W.length y.cw) 112 8 y.W.length y.xs, .tree y.SW (fun w => PdSs 26 w y.W y.xs y.SW), .blk b6 (.cells (exC y.x y.ox y.cx).toArray 26 (0, 0)), .tree y.Sx (fun w => ExR 26 w y.ox y.cx y.x.kids y.Sx), .blk b4 (.cells ex00.toArray 26 (0, 0)), .blk c.pb (.cells (pcell c y.r).toArray c.T (0, 0))]) (fun (y : ESt) _ => y.r <:+ r ∧ y.r.length < r.length ∧ y.W.length + y.r.length ≤ r.length ∧ y.r.length < y.n ∧ Nw w0.heap.size y.SW ∧ Nw w0.heap.size y.Sx ∧ exprW (unaryP c.e m) r = contE (unaryP c.e m) y.n y.W y.x y.r) (fun (y : ESt) => y.r.length) ⟨[], x0, r0, r0.length + 1, none, 0, [], [], ox0, cx0, Sx0⟩ ⟨rfl, rfl, rfl, rfl, rfl, trivial⟩ (st.pick [3, 4, 0, 1, 2, 5] rfl (by decide)) ⟨hsfr0, hlnr0, by simp; omega, by dsimp only; omega, Nw.nil, hNSx0, hs⟩ ?_
  clear st hs
  rintro ⟨W, x, r1, n, ow, cW, xs, SW, ox, cx, Sx⟩ w ⟨hsf1, hlt1, hWl, hn1, hSW, hSx, hs⟩ st
  dsimp only at hsf1 hlt1 hWl hn1 hSW hSx hs st
  have hr1 := hsf1.trans hr
  obtain ⟨n, rfl⟩ : ∃ k, n = k + 1 := ⟨n - 1, by omega⟩
  refine vc_block ?_
  refine vc_seq ?_
  refine vc_region ?_
  refine vc_y rfl rfl (y_mv rfl) ?_
  refine vc_e (e_call [_] rfl rfl Tryd.call58 rfl (phere_any c r1 hr1 _ (hC.k1 st.chg) (by exact st.res (i := 5) rfl)) ?_)
  rintro _ w ⟨rfl, cw⟩
  replace st := st.call0 cw
  refine vc_e (e_al (l := [_, _, _, _]) st rfl rfl Tryd.zeroValue53 rfl ?_)
  intro b7 w hb7 st
  refine vc_e (e_sts (vs := [_, _, _, _]) st 0 rfl rfl rfl rfl rfl Tryd.sizeOf53 rfl rfl (by first | (right; assumption) | (left; simp)) ?_)
  intro w st; dsimp only [setNth, wr] at st
  refine vc_end ?_
  refine vq_then ?_
  refine vc_keep [(0, _), (1, _), (4, _), (5, _), (6, _), (7, _)] ⟨rfl, rfl, rfl, rfl, rfl, rfl, trivial⟩ ?_
  refine vc_seq ?_
  refine vc_region ?_
  refine vc_y rfl rfl ((by exact y_faz (k := 1) rfl Tryd.underlying53 rfl rfl Tryd.sizeOf9 rfl)) ?_
  refine vc_y rfl rfl ((by exact y_ld st 0 rfl Tryd.isAgg9 rfl rfl)) ?_
  refine vc_e (e_call [_] rfl rfl Tryd.call59 rfl (find_any (here r1).text _ (hg ▸ (hC.k1 st.chg).sig)) ?_)
  rintro _ _ ⟨rfl, rfl⟩
  refine vc_y rfl rfl (y_mv rfl) ?_
  refine vc_y rfl rfl (y_ext rfl rfl) ?_
  refine vc_y rfl rfl (y_ext rfl rfl) ?_
  refine vc_y rfl rfl (y_as rfl) ?_
  refine vc_y rfl rfl (y_as rfl) ?_
  refine vc_end ?_
  refine vq_then ?_
  refine vc_keep [(0, _), (1, _), (4, _), (5, _), (6, _), (7, _), (8, _), (9, _)] ⟨rfl, rfl, rfl, rfl, rfl, rfl, rfl, rfl, trivial⟩ ?_
  refine vc_cut (w0 := w0) (M := [c.pb]) (fun (b : Bool) => [(0, .pointer (some ⟨c.pb, 0, none⟩)), (1, .int .i64 (d : Int)), (4, .pointer (some ⟨b4, 0, none⟩)), (5, .slice (ESt.mk W x r1 n ow cW xs SW ox cx Sx).ow (ESt.mk W x r1 n ow cW xs SW ox cx Sx).W.length (ESt.mk W x r1 n ow cW xs SW ox cx Sx).cw), (6, .pointer (some ⟨b6, 0, none⟩)), (7, .pointer (some ⟨b7, 0, none⟩)), (8, .int .u8 (((findO (here r1).text).getD 0 : Nat) : Int)), (9, .bool b)]) (fun _ => [.blk b7 (.cells (tkL (here r1)).toArray 53 (0, 0)), .own (.slice (ESt.mk W x r1 n ow cW xs SW ox cx Sx).ow (ESt.mk W x r1 n ow cW xs SW ox cx Sx).W.length (ESt.mk W x r1 n ow cW xs SW ox cx Sx).cw) 112 8 (ESt.mk W x r1 n ow cW xs SW ox cx Sx).W.length (ESt.mk W x r1 n ow cW xs SW ox cx Sx).xs, .tree (ESt.mk W x r1 n ow cW xs SW ox cx Sx).SW (fun w => PdSs 26 w (ESt.mk W x r1 n ow cW xs SW ox cx Sx).W (ESt.mk W x r1 n ow cW xs SW ox cx Sx).xs (ESt.mk W x r1 n ow cW xs SW ox cx Sx).SW), .blk b6 (.cells (exC (ESt.mk W x r1 n ow cW xs SW ox cx Sx).x (ESt.mk W x r1 n ow cW xs SW ox cx Sx).ox (ESt.mk W x r1 n ow cW xs SW ox cx Sx).cx).toArray 26 (0, 0)), .tree (ESt.mk W x r1 n ow cW xs SW ox cx Sx).Sx (fun w => ExR 26 w (ESt.mk W x r1 n ow cW xs SW ox cx Sx).ox (ESt.mk W x r1 n ow cW xs SW ox cx Sx).cx (ESt.mk W x r1 n ow cW xs SW ox cx Sx).x.kids (ESt.mk W x r1 n ow cW xs SW ox cx Sx).Sx), .blk b4 (.cells ex00.toArray 26 (0, 0)), .blk c.pb (.cells (pcell c r1).toArray c.T (0, 0))]) (fun b _ => b = (opT (here r1)).isSome) ?_ ?_
  ·
    refine vc_region ?_
    refine vc_y rfl rfl (y_mv rfl) ?_
    refine vc_e (e_mvb rfl rfl rfl ?_ ?_)
    · intro hg23
      try simp only [dn] at hg23
      refine vc_y rfl rfl (y_fa0 rfl Tryd.underlying53 rfl rfl Tryd.sizeOf51 rfl) ?_
      refine vc_y rfl rfl ((by exact y_ld st 0 rfl Tryd.isAgg51 rfl rfl)) ?_
      refine vc_y rfl rfl (y_eqi rfl rfl) ?_
      refine vc_y rfl rfl (y_pickt rfl rfl) ?_
      refine vc_y rfl rfl (y_as rfl) ?_
      refine vc_end ?_
      refine vq_meet (decide (((here r1).kind : Int) = 4)) ⟨rfl, rfl, rfl, rfl, rfl, rfl, rfl, rfl, trivial⟩ st ?_
      · show decide _ = _
        have hk4 : ((here r1).kind : Int) = 4 ↔ (here r1).kind = 4 := by omega
        unfold opT
        by_cases hk : (here r1).kind = 4
        · simp [hk, hg23]
        · simp [hk, hk4]
    · intro hg23
      try simp only [dn] at hg23
      refine vc_e (e_skip rfl rfl ?_)
      refine vc_e (e_skip rfl rfl ?_)
      refine vc_e (e_skip rfl rfl ?_)
      refine vc_y rfl rfl (y_pickf rfl rfl) ?_
      refine vc_y rfl rfl (y_as rfl) ?_
      refine vc_end ?_
      refine vq_meet false ⟨rfl, rfl, rfl, rfl, rfl, rfl, rfl, rfl, trivial⟩ st ?_
      · show false = _
        unfold opT
        split
        · exact hg23.symm
        · rfl
  ·
    clear st
    rintro isop w hop st
    dsimp only at hop st
    refine vc_cut (w0 := w0) (M := [c.pb]) (fun (z : ESt) => [(0, .pointer (some ⟨c.pb, 0, none⟩)), (1, .int .i64 (d : Int)), (4, .pointer (some ⟨b4, 0, none⟩)), (5, .slice z.ow z.W.length z.cw), (6, .pointer (some ⟨b6, 0, none⟩)), (7, .pointer (some ⟨b7, 0, none⟩)), (8, .int .u8 (((findO (here r1).text).getD 0 : Nat) : Int)), (9, .bool isop)]) (fun (z : ESt) => [.blk b7 (.cells (tkL (here r1)).toArray 53 (0, 0)), .own (.slice z.ow z.W.length z.cw) 112 8 z.W.length z.xs, .tree z.SW (fun w => PdSs 26 w z.W z.xs z.SW), .blk b6 (.cells (exC z.x z.ox z.cx).toArray 26 (0, 0)), .tree z.Sx (fun w => ExR 26 w z.ox z.cx z.x.kids z.Sx), .blk b4 (.cells ex00.toArray 26 (0, 0)), .blk c.pb (.cells (pcell c r1).toArray c.T (0, 0))]) (fun (z : ESt) _ => z.W.length ≤ W.length ∧ Nw w0.heap.size z.SW ∧ Nw w0.heap.size z.Sx ∧ redu (!isop) (lvlO (((findO (here r1).text).getD 0 : Nat) : Int)) W x = (z.W, z.x) ∧ (isop = false → z.W = [])) ?_ ?_
    ·
      refine vc_block ?_
      refine vc_loop (w0 := w0) (M := [c.pb]) (fun (z : ESt) => [(0, .pointer (some ⟨c.pb, 0, none⟩)), (1, .int .i64 (d : Int)), (4, .pointer (some ⟨b4, 0, none⟩)), (5, .slice z.ow z.W.length z.cw), (6, .pointer (some ⟨b6, 0, none⟩)), (7, .pointer (some ⟨b7, 0, none⟩)), (8, .int .u8 (((findO (here r1).text).getD 0 : Nat) : Int)), (9, .bool isop)]) (fun (z : ESt) => [.blk b7 (.cells (tkL (here r1)).toArray 53 (0, 0)), .own (.slice z.ow z.W.length z.cw) 112 8 z.W.length z.xs, .tree z.SW (fun w => PdSs 26 w z.W z.xs z.SW), .blk b6 (.cells (exC z.x z.ox z.cx).toArray 26 (0, 0)), .tree z.Sx (fun w => ExR 26 w z.ox z.cx z.x.kids z.Sx), .blk b4 (.cells ex00.toArray 26 (0, 0)), .blk c.pb (.cells (pcell c r1).toArray c.T (0, 0))]) (fun (z : ESt) _ => z.W.length ≤ W.length ∧ Nw w0.heap.size z.SW ∧ Nw w0.heap.size z.Sx ∧ redu (!isop) (lvlO (((findO (here r1).text).getD 0 : Nat) : Int)) W x = redu (!isop) (lvlO (((findO (here r1).text).getD 0 : Nat) : Int)) z.W z.x) (fun (z : ESt) => z.W.length) ⟨W, x, r1, n, ow, cW, xs, SW, ox, cx, Sx⟩ ⟨rfl, rfl, rfl, rfl, rfl, rfl, rfl, rfl, trivial⟩ st ⟨Nat.le_refl _, hSW, hSx, rfl⟩ ?_
      clear st
      rintro ⟨zW, zx, zr, zn, zow, zcW, zxs, zSW, zox, zcx, zSx⟩ w ⟨hzl, hzSW, hzSx, hzr⟩ st
      dsimp only at hzl hzSW hzSx hzr st
      refine vc_seq ?_
      refine vc_seq ?_
      refine vc_region ?_
      refine vc_y rfl rfl (y_mv rfl) ?_
      refine vc_y rfl rfl (y_lensl rfl Tryd.underlying107) ?_
      refine vc_y rfl rfl (y_gtr rfl rfl) ?_
      refine vc_e (e_mvb rfl rfl rfl ?_ ?_)
      · intro hg31
        try simp only [dn] at hg31
        obtain ⟨⟨po, pa, pl⟩, W2, rfl⟩ : ∃ p W2, zW = p :: W2 := by cases zW with | nil => simp at hg31 | cons p W2 => exact ⟨p, W2, rfl⟩
        obtain ⟨ol, cl, Sl, xr, Sr, rfl, hS, hRl, hPr⟩ := (st.res (i := 2) rfl).1
        have hxl := hPr.len
        have hzl2 : W2.length + 1 ≤ W.length := by simpa using hzl
        have hcap := own_cap (st.res (i := 1) rfl)
        obtain ⟨gb, rfl⟩ := own_some (st.res (i := 1) rfl) (by simp)
        refine vc_y rfl rfl (y_mv rfl) ?_
        refine vc_y rfl rfl (y_not rfl) ?_
        refine vc_e (e_mvb rfl rfl rfl ?_ ?_)
        · intro hg34
          try simp only [dn] at hg34
          refine vc_e (e_skip rfl rfl ?_)
          refine vc_e (e_skip rfl rfl ?_)
          refine vc_e (e_skip rfl rfl ?_)
          refine vc_e (e_skip rfl rfl ?_)
          refine vc_e (e_skip rfl rfl ?_)
          refine vc_e (e_skip rfl rfl ?_)
          refine vc_e (e_skip rfl rfl ?_)
          refine vc_e (e_skip rfl rfl ?_)
          refine vc_e (e_skip rfl rfl ?_)
          refine vc_e (e_skip rfl rfl ?_)
          refine vc_e (e_skip rfl rfl ?_)
          refine vc_y rfl rfl (y_pickt rfl rfl) ?_
          refine vc_y rfl rfl (y_pickt rfl rfl) ?_
          refine vc_end ?_
          refine vq_then ?_
          refine vc_keep [(0, _), (1, _), (4, _), (5, _), (6, _), (7, _), (8, _), (9, _), (47, _)] ⟨rfl, rfl, rfl, rfl, rfl, rfl, rfl, rfl, rfl, trivial⟩ ?_
          refine vc_ift rfl ?_
          refine vc_code_skip ?_
          refine vq_then ?_
          refine vc_keep [(0, _), (1, _), (4, _), (5, _), (6, _), (7, _), (8, _), (9, _)] ⟨rfl, rfl, rfl, rfl, rfl, rfl, rfl, rfl, trivial⟩ ?_
          refine vc_block ?_
          refine vc_seq ?_
          refine vc_region ?_
          subst hS
          have st0 := (st.pick [2, 0, 1, 3, 4, 5, 6] rfl (by decide)).split hzSW.1 hPr hRl loc_pd loc_ex
          replace st := st0.pick [2, 3, 0, 1, 4, 5, 6, 7] rfl (by decide)
          refine vc_y rfl rfl (y_mv rfl) ?_
          refine vc_y rfl rfl (y_mv rfl) ?_
          refine vc_y rfl rfl (y_lensl rfl Tryd.underlying107) ?_
          refine vc_y rfl rfl (y_sub rfl rfl (by simp : _ = (W2.length : Int)) (by omega) (by omega)) ?_
          refine vc_y rfl rfl ((by exact y_ia0 (k := W2.length) rfl rfl Tryd.underlying107 Tryd.sizeOf112 rfl (by simp))) ?_
          refine vc_y rfl rfl ((by exact y_ldoa (vs := pdC (po, pa, pl) ol cl) st 1 rfl Tryd.isAgg112 Tryd.sizeOf112 rfl rfl (fun j v hj => (app_at hxl).trans hj))) ?_
          refine vc_e (e_al (l := [_, _, _, _, _, _, _, _]) st rfl rfl Tryd.zeroValue112 rfl ?_)
          intro b10 w hb10 st
          refine vc_e (e_sts (vs := [_, _, _, _, _, _, _, _]) st 0 rfl rfl rfl rfl rfl Tryd.sizeOf112 rfl rfl (by first | (right; assumption) | (left; simp)) ?_)
          intro w st; dsimp only [setNth, wr] at st
          refine vc_end ?_
          refine vq_then ?_
          refine vc_keep [(0, _), (1, _), (4, _), (5, _), (6, _), (7, _), (8, _), (9, _), (10, _)] ⟨rfl, rfl, rfl, rfl, rfl, rfl, rfl, rfl, rfl, trivial⟩ ?_
          refine vc_seq ?_
          refine vc_region ?_
          refine vc_y rfl rfl (y_mv rfl) ?_
          refine vc_y rfl rfl (y_mv rfl) ?_
          refine vc_y rfl rfl (y_lensl rfl Tryd.underlying107) ?_
          refine vc_y rfl rfl (y_sub rfl rfl (by simp : _ = (W2.length : Int)) (by omega) (by omega)) ?_
          refine vc_y rfl rfl (y_slh (j := W2.length) rfl rfl Tryd.underlying107 Tryd.sizeOf112 rfl (by show W2.length ≤ zcW; simp at hcap; omega)) ?_
          refine vc_y rfl rfl (y_as rfl) ?_
          refine vc_end ?_
          refine vq_then ?_
          refine vc_keep [(0, _), (1, _), (4, _), (5, _), (6, _), (7, _), (8, _), (9, _), (10, _)] ⟨rfl, rfl, rfl, rfl, rfl, rfl, rfl, rfl, rfl, trivial⟩ ?_
          refine vc_region ?_
          replace st := (st.pick [2, 0, 1, 3, 4, 5, 6, 7, 8] rfl (by decide)).shrink (m := W2.length) (by simp) hxl
          refine vc_y rfl rfl (y_fa0 rfl Tryd.underlying112 rfl rfl Tryd.sizeOf23 rfl) ?_
          refine vc_y rfl rfl ((by exact y_ld st 1 rfl Tryd.isAgg23 rfl rfl)) ?_
          refine vc_y rfl rfl ((by exact y_faz (k := 2) rfl Tryd.underlying112 rfl rfl Tryd.sizeOf26 rfl)) ?_
          refine vc_y rfl rfl ((by exact y_lda (vs := [_, _, _, _, _, _]) st 1 rfl Tryd.isAgg26 Tryd.sizeOf26 rfl rfl)) ?_
          refine vc_y rfl rfl ((by exact y_lda (vs := [_, _, _, _, _, _]) st 5 rfl Tryd.isAgg26 Tryd.sizeOf26 rfl rfl)) ?_
          refine vc_e (e_bsn (l := exC pl ol cl ++ exC zx zox zcx) (E := 26) st [(0, _), (1, _)] rfl rfl rfl (fun w => by simp [Instr.buildSlice, run_underlying Tryd.underlying24, Tryd.sizeOf26, Tryd.zeroValue26, Instr.fill, newRow, newObj, Sem.run, go_sem, Value.cells]) ?_)
          intro b64 w hb64 st
          refine vc_y rfl rfl ((by exact y_faz (k := 1) rfl Tryd.underlying112 rfl rfl Tryd.sizeOf3 rfl)) ?_
          refine vc_y rfl rfl ((by exact y_ld st 2 rfl Tryd.isAgg3 rfl rfl)) ?_
          refine vc_y rfl rfl (y_bld (.agg #[_, _, _, _, _, _]) [(0, _), (1, _), (4, _), (5, _)] rfl (fun w => by simp [Instr.build, go_sem] <;> repeat' constructor)) ?_
          refine vc_e (e_sts (vs := [_, _, _, _, _, _]) st 6 rfl rfl rfl rfl rfl Tryd.sizeOf26 rfl rfl (by first | (right; assumption) | (left; simp)) ?_)
          intro w st; dsimp only [setNth, wr] at st
          refine vc_end ?_
          refine vq_block ?_
          refine vq_again ⟨W2, binE po pa pl zx, zr, zn, some ⟨gb, 0, none⟩, zcW, xr, Sr, some ⟨b64, 0, none⟩, 2, b64 :: (Sl ++ zSx)⟩  ⟨rfl, rfl, rfl, rfl, rfl, rfl, rfl, rfl, trivial⟩ (by
            have hE := ex_two (st.res (i := 0) rfl) (st.res (i := 5) rfl).1 (st.res (i := 7) rfl).1
            exact (((st.pick [0, 5, 7, 3, 1, 4, 6, 8, 9] rfl (by decide)).joinN 3 (q := .tree (b64 :: (Sl ++ zSx)) fun w => ExR 26 w (some ⟨b64, 0, none⟩) 2 [pl, zx] (b64 :: (Sl ++ zSx))) (fun k hk => by
              rcases List.mem_cons.1 hk with rfl | hk
              · exact ⟨_, .head _, .head _⟩
              · rcases List.mem_append.1 hk with h | h
                · exact ⟨_, .tail _ (.head _), h⟩
                · exact ⟨_, .tail _ (.tail _ (.head _)), h⟩) (holds_ex hE))).pick [1, 2, 3, 4, 0, 5, 6] rfl (by decide)) ?_ ?_
          · have hrd : redu (!isop) (lvlO (((findO (here r1).text).getD 0 : Nat) : Int)) ((po, pa, pl) :: W2) zx = redu (!isop) (lvlO (((findO (here r1).text).getD 0 : Nat) : Int)) W2 (binE po pa pl zx) := by
              simp only [redu]
              rw [if_pos (.inl (by rw [hg34]; rfl))]
            refine ⟨by simp at hzl; dsimp only; omega, hzSW.left, ?_, hzr.trans hrd⟩
            refine Nw.app (S := [b64]) ⟨by simp, by simpa using hb64⟩ (hzSW.right.app hzSx (st.ne (i := 5) (j := 7) (by decide) rfl rfl)) (fun b hb hb' => ?_)
            rcases List.mem_append.1 hb' with h | h
            · exact st.ne (i := 0) (j := 5) (by decide) rfl rfl b hb h
            · exact st.ne (i := 0) (j := 7) (by decide) rfl rfl b hb h
          · simp
        · intro hg34
          try simp only [dn] at hg34
          refine vc_y rfl rfl (y_mv rfl) ?_
          refine vc_y rfl rfl (y_mv rfl) ?_
          refine vc_y rfl rfl (y_lensl rfl Tryd.underlying107) ?_
          refine vc_y rfl rfl (y_sub rfl rfl (by simp : _ = (W2.length : Int)) (by omega) (by omega)) ?_
          refine vc_y rfl rfl ((by exact y_ia0 (k := W2.length) rfl rfl Tryd.underlying107 Tryd.sizeOf112 rfl (by simp))) ?_
          refine vc_y rfl rfl (y_fa0 rfl Tryd.underlying112 rfl rfl Tryd.sizeOf23 rfl) ?_
          refine vc_y rfl rfl ((by exact y_ldo st 1 rfl Tryd.isAgg23 rfl (app_at (j := 0) hxl))) ?_
          refine vc_e (e_call [_] rfl rfl Tryd.call15 rfl (level_any _ _ (hg ▸ (hC.k1 st.chg).sig)) ?_)
          rintro _ _ ⟨rfl, rfl⟩
          refine vc_y rfl rfl (y_mv rfl) ?_
          refine vc_e (e_call [_] rfl rfl Tryd.call15 rfl (level_any _ _ (hg ▸ (hC.k1 st.chg).sig)) ?_)
          rintro _ _ ⟨rfl, rfl⟩
          refine vc_y rfl rfl (y_geq rfl rfl) ?_
          refine vc_y rfl rfl (y_pickf rfl rfl) ?_
          refine vc_y rfl rfl (y_pickt rfl rfl) ?_
          refine vc_end ?_
          refine vq_then ?_
          refine vc_keep [(0, _), (1, _), (4, _), (5, _), (6, _), (7, _), (8, _), (9, _), (47, _)] ⟨rfl, rfl, rfl, rfl, rfl, rfl, rfl, rfl, rfl, trivial⟩ ?_
          refine vc_ifs rfl ?_ ?_
          · intro hc47
            try simp only [dn] at hc47
            refine vc_code_skip ?_
            refine vq_then ?_
            refine vc_keep [(0, _), (1, _), (4, _), (5, _), (6, _), (7, _), (8, _), (9, _)] ⟨rfl, rfl, rfl, rfl, rfl, rfl, rfl, rfl, trivial⟩ ?_
            refine vc_block ?_
            refine vc_seq ?_
            refine vc_region ?_
            subst hS
            have st0 := (st.pick [2, 0, 1, 3, 4, 5, 6] rfl (by decide)).split hzSW.1 hPr hRl loc_pd loc_ex
            replace st := st0.pick [2, 3, 0, 1, 4, 5, 6, 7] rfl (by decide)
            refine vc_y rfl rfl (y_mv rfl) ?_
            refine vc_y rfl rfl (y_mv rfl) ?_
            refine vc_y rfl rfl (y_lensl rfl Tryd.underlying107) ?_
            refine vc_y rfl rfl (y_sub rfl rfl (by simp : _ = (W2.length : Int)) (by omega) (by omega)) ?_
            refine vc_y rfl rfl ((by exact y_ia0 (k := W2.length) rfl rfl Tryd.underlying107 Tryd.sizeOf112 rfl (by simp))) ?_
            refine vc_y rfl rfl ((by exact y_ldoa (vs := pdC (po, pa, pl) ol cl) st 1 rfl Tryd.isAgg112 Tryd.sizeOf112 rfl rfl (fun j v hj => (app_at hxl).trans hj))) ?_
            refine vc_e (e_al (l := [_, _, _, _, _, _, _, _]) st rfl rfl Tryd.zeroValue112 rfl ?_)
            intro b10 w hb10 st
            refine vc_e (e_sts (vs := [_, _, _, _, _, _, _, _]) st 0 rfl rfl rfl rfl rfl Tryd.sizeOf112 rfl rfl (by first | (right; assumption) | (left; simp)) ?_)
            intro w st; dsimp only [setNth, wr] at st
            refine vc_end ?_
            refine vq_then ?_
            refine vc_keep [(0, _), (1, _), (4, _), (5, _), (6, _), (7, _), (8, _), (9, _), (10, _)] ⟨rfl, rfl, rfl, rfl, rfl, rfl, rfl, rfl, rfl, trivial⟩ ?_
            refine vc_seq ?_
            refine vc_region ?_
            refine vc_y rfl rfl (y_mv rfl) ?_
            refine vc_y rfl rfl (y_mv rfl) ?_
            refine vc_y rfl rfl (y_lensl rfl Tryd.underlying107) ?_
            refine vc_y rfl rfl (y_sub rfl rfl (by simp : _ = (W2.length : Int)) (by omega) (by omega)) ?_
            refine vc_y rfl rfl (y_slh (j := W2.length) rfl rfl Tryd.underlying107 Tryd.sizeOf112 rfl (by show W2.length ≤ zcW; simp at hcap; omega)) ?_
            refine vc_y rfl rfl (y_as rfl) ?_
            refine vc_end ?_
            refine vq_then ?_
            refine vc_keep [(0, _), (1, _), (4, _), (5, _), (6, _), (7, _), (8, _), (9, _), (10, _)] ⟨rfl, rfl, rfl, rfl, rfl, rfl, rfl, rfl, rfl, trivial⟩ ?_
            refine vc_region ?_
            replace st := (st.pick [2, 0, 1, 3, 4, 5, 6, 7, 8] rfl (by decide)).shrink (m := W2.length) (by simp) hxl
            refine vc_y rfl rfl (y_fa0 rfl Tryd.underlying112 rfl rfl Tryd.sizeOf23 rfl) ?_
            refine vc_y rfl rfl ((by exact y_ld st 1 rfl Tryd.isAgg23 rfl rfl)) ?_
            refine vc_y rfl rfl ((by exact y_faz (k := 2) rfl Tryd.underlying112 rfl rfl Tryd.sizeOf26 rfl)) ?_
            refine vc_y rfl rfl ((by exact y_lda (vs := [_, _, _, _, _, _]) st 1 rfl Tryd.isAgg26 Tryd.sizeOf26 rfl rfl)) ?_
            refine vc_y rfl rfl ((by exact y_lda (vs := [_, _, _, _, _, _]) st 5 rfl Tryd.isAgg26 Tryd.sizeOf26 rfl rfl)) ?_
            refine vc_e (e_bsn (l := exC pl ol cl ++ exC zx zox zcx) (E := 26) st [(0, _), (1, _)] rfl rfl rfl (fun w => by simp [Instr.buildSlice, run_underlying Tryd.underlying24, Tryd.sizeOf26, Tryd.zeroValue26, Instr.fill, newRow, newObj, Sem.run, go_sem, Value.cells]) ?_)
            intro b64 w hb64 st
            refine vc_y rfl rfl ((by exact y_faz (k := 1) rfl Tryd.underlying112 rfl rfl Tryd.sizeOf3 rfl)) ?_
            refine vc_y rfl rfl ((by exact y_ld st 2 rfl Tryd.isAgg3 rfl rfl)) ?_
            refine vc_y rfl rfl (y_bld (.agg #[_, _, _, _, _, _]) [(0, _), (1, _), (4, _), (5, _)] rfl (fun w => by simp [Instr.build, go_sem] <;> repeat' constructor)) ?_
            refine vc_e (e_sts (vs := [_, _, _, _, _, _]) st 6 rfl rfl rfl rfl rfl Tryd.sizeOf26 rfl rfl (by first | (right; assumption) | (left; simp)) ?_)
            intro w st; dsimp only [setNth, wr] at st
            refine vc_end ?_
            refine vq_block ?_
            refine vq_again ⟨W2, binE po pa pl zx, zr, zn, some ⟨gb, 0, none⟩, zcW, xr, Sr, some ⟨b64, 0, none⟩, 2, b64 :: (Sl ++ zSx)⟩  ⟨rfl, rfl, rfl, rfl, rfl, rfl, rfl, rfl, trivial⟩ (by
              have hE := ex_two (st.res (i := 0) rfl) (st.res (i := 5) rfl).1 (st.res (i := 7) rfl).1
              exact (((st.pick [0, 5, 7, 3, 1, 4, 6, 8, 9] rfl (by decide)).joinN 3 (q := .tree (b64 :: (Sl ++ zSx)) fun w => ExR 26 w (some ⟨b64, 0, none⟩) 2 [pl, zx] (b64 :: (Sl ++ zSx))) (fun k hk => by
                rcases List.mem_cons.1 hk with rfl | hk
                · exact ⟨_, .head _, .head _⟩
                · rcases List.mem_append.1 hk with h | h
                  · exact ⟨_, .tail _ (.head _), h⟩
                  · exact ⟨_, .tail _ (.tail _ (.head _)), h⟩) (holds_ex hE))).pick [1, 2, 3, 4, 0, 5, 6] rfl (by decide)) ?_ ?_
            · have hrd : redu (!isop) (lvlO (((findO (here r1).text).getD 0 : Nat) : Int)) ((po, pa, pl) :: W2) zx = redu (!isop) (lvlO (((findO (here r1).text).getD 0 : Nat) : Int)) W2 (binE po pa pl zx) := by
                simp only [redu]
                rw [if_pos (.inr hc47)]
              refine ⟨by simp at hzl; dsimp only; omega, hzSW.left, ?_, hzr.trans hrd⟩
              refine Nw.app (S := [b64]) ⟨by simp, by simpa using hb64⟩ (hzSW.right.app hzSx (st.ne (i := 5) (j := 7) (by decide) rfl rfl)) (fun b hb hb' => ?_)
              rcases List.mem_append.1 hb' with h | h
              · exact st.ne (i := 0) (j := 5) (by decide) rfl rfl b hb h
              · exact st.ne (i := 0) (j := 7) (by decide) rfl rfl b hb h
            · simp
          · intro hc47
            try simp only [dn] at hc47
            refine vc_exit ?_
            refine vq_then_exit ?_
            refine vq_then_exit ?_
            refine vq_block_exit ?_
            refine vq_meet ⟨(po, pa, pl) :: W2, zx, zr, zn, some ⟨gb, 0, none⟩, zcW, xr ++ pdC (po, pa, pl) ol cl, zSW, zox, zcx, zSx⟩ ⟨rfl, rfl, rfl, rfl, rfl, rfl, rfl, rfl, trivial⟩ st ?_
            · exact ⟨hzl, hzSW, hzSx, hzr.trans (by simp only [redu]; rw [if_neg (by rw [hg34]; simp; omega)]), fun h => by rw [h] at hg34; cases hg34⟩
      · intro hg31
        try simp only [dn] at hg31
        refine vc_e (e_skip rfl rfl ?_)
        refine vc_e (e_skip rfl rfl ?_)
        refine vc_e (e_skip rfl rfl ?_)
        refine vc_e (e_skip rfl rfl ?_)
        refine vc_e (e_skip rfl rfl ?_)
        refine vc_e (e_skip rfl rfl ?_)
        refine vc_e (e_skip rfl rfl ?_)
        refine vc_e (e_skip rfl rfl ?_)
        refine vc_e (e_skip rfl rfl ?_)
        refine vc_e (e_skip rfl rfl ?_)
        refine vc_e (e_skip rfl rfl ?_)
        refine vc_e (e_skip rfl rfl ?_)
        refine vc_e (e_skip rfl rfl ?_)
        refine vc_e (e_skip rfl rfl ?_)
        refine vc_e (e_skip rfl rfl ?_)
        refine vc_y rfl rfl (y_pickf rfl rfl) ?_
        refine vc_end ?_
        refine vq_then ?_
        refine vc_keep [(0, _), (1, _), (4, _), (5, _), (6, _), (7, _), (8, _), (9, _), (47, _)] ⟨rfl, rfl, rfl, rfl, rfl, rfl, rfl, rfl, rfl, trivial⟩ ?_
        refine vc_iff rfl ?_
        refine vc_exit ?_
        refine vq_then_exit ?_
        refine vq_then_exit ?_
        refine vq_block_exit ?_
        refine vq_meet ⟨zW, zx, zr, zn, zow, zcW, zxs, zSW, zox, zcx, zSx⟩ ⟨rfl, rfl, rfl, rfl, rfl, rfl, rfl, rfl, trivial⟩ st ?_
        · obtain rfl : zW = [] := List.eq_nil_of_length_eq_zero (by omega)
          exact ⟨hzl, hzSW, hzSx, hzr, fun _ => rfl⟩
    ·
      clear st
      rintro ⟨zW, zx, zr, zn, zow, zcW, zxs, zSW, zox, zcx, zSx⟩ w ⟨hzl, hzSW, hzSx, hzr, hz0⟩ st
      dsimp only at hzl hzSW hzSx hzr hz0 st
      refine vc_seq ?_
      refine vc_seq ?_
      refine vc_region ?_
      refine vc_y rfl rfl (y_mv rfl) ?_
      refine vc_y rfl rfl (y_not rfl) ?_
      refine vc_end ?_
      refine vq_then ?_
      refine vc_keep [(0, _), (1, _), (4, _), (5, _), (6, _), (7, _), (8, _), (69, _)] ⟨rfl, rfl, rfl, rfl, rfl, rfl, rfl, rfl, trivial⟩ ?_
      refine vc_ifs rfl ?_ ?_
      · intro hc69
        try simp only [dn] at hc69
        have hif : isop = false := by simpa using hc69
        have hno : opT (here r1) = none := by
          rw [hif] at hop
          cases hq : opT (here r1) with
          | none => rfl
          | some o => rw [hq] at hop; cases hop
        obtain rfl := hz0 hif
        rw [hif] at hzr
        simp only [Bool.not_false] at hzr
        replace hs := hs.trans (contE_stop hno hzr)
        refine vc_seq ?_
        refine vc_region ?_
        refine vc_y rfl rfl ((by exact y_lda (vs := [_, _, _, _, _, _]) st 3 rfl Tryd.isAgg26 Tryd.sizeOf26 rfl rfl)) ?_
        refine vc_e (e_sts (vs := [_, _, _, _, _, _]) st 5 rfl rfl rfl rfl rfl Tryd.sizeOf26 rfl rfl (by first | (right; assumption) | (left; simp)) ?_)
        intro w st; dsimp only [setNth, wr] at st
        refine vc_end ?_
        refine vq_then ?_
        refine vc_keep [(4, _)] ⟨rfl, trivial⟩ ?_
        refine vc_ret ?_
        refine vq_then_ret ?_
        refine vq_block_ret ?_
        refine vq_then_ret ?_
        refine vq_block_ret ?_
        refine vq_ret1 st (.inl rfl) Tryd.results29 (by exact .cell 5 rfl rfl Tryd.isAgg26 Tryd.sizeOf26) ?_
        refine .inl ⟨_, rfl, ?_⟩
        exact ⟨zx, r1, hs, hsf1, hlt1, (by exact st.res (i := 6) rfl), st.chg, zox, zcx, zSx, rfl, (st.res (i := 4) rfl).1, hzSx⟩
      · intro hc69
        try simp only [dn] at hc69
        have hit : isop = true := by simpa using hc69
        obtain ⟨op, hop1⟩ : ∃ op, opT (here r1) = some op := by
          rw [hit] at hop
          cases hq : opT (here r1) with
          | none => rw [hq] at hop; cases hop
          | some o => exact ⟨o, rfl⟩
        have hfo : findO (here r1).text = some op := by
          unfold opT at hop1; split at hop1
          · exact hop1
          · cases hop1
        rw [hit, hfo] at hzr
        simp only [Bool.not_true, Option.getD_some] at hzr
        replace hs := hs.trans (contE_step hop1 hzr)
        have hne1 := opT_ne hop1
        have htl1 := tail_lt hne1
        refine vc_code_skip ?_
        refine vq_then ?_
        refine vc_keep [(0, _), (1, _), (4, _), (5, _), (6, _), (7, _), (8, _)] ⟨rfl, rfl, rfl, rfl, rfl, rfl, rfl, trivial⟩ ?_
        refine vc_seq ?_
        refine vc_region ?_
        refine vc_y rfl rfl (y_mv rfl) ?_
        refine vc_e (e_call [_] rfl rfl Tryd.call60 rfl (pnext_any c r1 hr1 hne1 _ (hC.k1 st.chg) (by exact st.res (i := 6) rfl)) ?_)
        rintro _ w ⟨rfl, hP1, cw⟩
        first
        | replace st := St.prs (b := c.pb) st 0 rfl cw (.inl (.head _)) hP1
        | replace st := St.prs (b := c.pb) st 1 rfl cw (.inl (.head _)) hP1
        | replace st := St.prs (b := c.pb) st 2 rfl cw (.inl (.head _)) hP1
        | replace st := St.prs (b := c.pb) st 3 rfl cw (.inl (.head _)) hP1
        | replace st := St.prs (b := c.pb) st 4 rfl cw (.inl (.head _)) hP1
        | replace st := St.prs (b := c.pb) st 5 rfl cw (.inl (.head _)) hP1
        | replace st := St.prs (b := c.pb) st 6 rfl cw (.inl (.head _)) hP1
        | replace st := St.prs (b := c.pb) st 7 rfl cw (.inl (.head _)) hP1
        | replace st := St.prs (b := c.pb) st 8 rfl cw (.inl (.head _)) hP1
        | replace st := St.prs (b := c.pb) st 9 rfl cw (.inl (.head _)) hP1
        dsimp only [setNth] at st
        refine vc_end ?_
        refine vq_then ?_
        refine vc_keep [(0, _), (1, _), (4, _), (5, _), (6, _), (7, _), (8, _)] ⟨rfl, rfl, rfl, rfl, rfl, rfl, rfl, trivial⟩ ?_
        refine vc_seq ?_
        refine vc_region ?_
        refine vc_y rfl rfl (y_mv rfl) ?_
        refine vc_y rfl rfl (y_mv rfl) ?_
        refine vc_y rfl rfl ((by exact y_faz (k := 3) rfl Tryd.underlying53 rfl rfl Tryd.sizeOf3 rfl)) ?_
        refine vc_y rfl rfl ((by exact y_ld st 0 rfl Tryd.isAgg3 rfl rfl)) ?_
        refine vc_y rfl rfl ((by exact y_lda (vs := [_, _, _, _, _, _]) st 3 rfl Tryd.isAgg26 Tryd.sizeOf26 rfl rfl)) ?_
        refine vc_y rfl rfl (y_bld (.agg #[_, _, _, _, _, _, _, _]) [(0, _), (1, _), (2, _)] rfl (fun w => by simp [Instr.build, go_sem] <;> repeat' constructor)) ?_
        refine vc_e (e_bs1 (l := [_, _, _, _, _, _, _, _]) st rfl rfl rfl rfl Tryd.underlying107 Tryd.sizeOf112 rfl rfl rfl Tryd.zeroValue112 ?_)
        intro b79 w hb79 st
        refine vc_e (e_app (bytes := 80) st 2 0 rfl rfl rfl rfl rfl rfl Tryd.underlying107 Tryd.info112 rfl rfl rfl rfl rfl (by simp) rfl rfl (by unfold maxLen; omega) (by omega) ?_)
        intro oaQ capQ w st; dsimp only [setNth] at st
        refine vc_y rfl rfl (y_as rfl) ?_
        refine vc_end ?_
        refine vq_then ?_
        refine vc_keep [(0, _), (1, _), (4, _), (5, _), (6, _)] ⟨rfl, rfl, rfl, rfl, rfl, trivial⟩ ?_
        refine vc_region ?_
        rw [hfo] at st
        dsimp only [Option.getD_some] at st
        have hT' : PdSs 26 w ((op, (here r1).at_, zx) :: zW) (zxs ++ pdC (op, (here r1).at_, zx) zox zcx) (zSW ++ zSx) := ⟨zox, zcx, zSx, zxs, zSW, rfl, rfl, (st.res (i := 5) rfl).1, (st.res (i := 3) rfl).1⟩
        have hSW' := hzSW.app hzSx (st.ne (i := 3) (j := 5) (by decide) rfl rfl)
        replace st := ((st.pick [3, 5, 2, 4, 6, 7] rfl (by decide)).join (q := .tree (zSW ++ zSx) (fun w => PdSs 26 w ((op, (here r1).at_, zx) :: zW) (zxs ++ pdC (op, (here r1).at_, zx) zox zcx) (zSW ++ zSx))) (fun k hk => List.mem_append.1 hk) (holds_pd hT'))
        refine vc_y rfl rfl (y_mv rfl) ?_
        refine vc_y rfl rfl (y_mv rfl) ?_
        refine vc_e (e_callp [_, _] rfl rfl Tryd.call57 rfl (hU r1.tail (suf_tail hr1) _ (hC.k1 st.chg) (by exact st.res (i := 4) rfl)) (by rintro _ w' ⟨f, hf, rfl, ch⟩ a ha; exact And.intro ha (Or.inr ⟨_, rfl, f, by rw [hs, hf], rfl, st.chg.trans ch⟩)) ?_)
        rintro _ w ⟨x2, r2, hx, hsfr2, hlnr2, hP1, cw, oy, cy, Sy, rfl, hQ, hN⟩
        have hNSy := hN.le st.chg.size
        first
        | replace st := St.prsT (b := c.pb) st 0 rfl cw (.inl (.head _)) hP1 (holds_ex hQ) hN.2
        | replace st := St.prsT (b := c.pb) st 1 rfl cw (.inl (.head _)) hP1 (holds_ex hQ) hN.2
        | replace st := St.prsT (b := c.pb) st 2 rfl cw (.inl (.head _)) hP1 (holds_ex hQ) hN.2
        | replace st := St.prsT (b := c.pb) st 3 rfl cw (.inl (.head _)) hP1 (holds_ex hQ) hN.2
        | replace st := St.prsT (b := c.pb) st 4 rfl cw (.inl (.head _)) hP1 (holds_ex hQ) hN.2
        | replace st := St.prsT (b := c.pb) st 5 rfl cw (.inl (.head _)) hP1 (holds_ex hQ) hN.2
        | replace st := St.prsT (b := c.pb) st 6 rfl cw (.inl (.head _)) hP1 (holds_ex hQ) hN.2
        | replace st := St.prsT (b := c.pb) st 7 rfl cw (.inl (.head _)) hP1 (holds_ex hQ) hN.2
        | replace st := St.prsT (b := c.pb) st 8 rfl cw (.inl (.head _)) hP1 (holds_ex hQ) hN.2
        | replace st := St.prsT (b := c.pb) st 9 rfl cw (.inl (.head _)) hP1 (holds_ex hQ) hN.2
        dsimp only [setNth] at st
        rw [hx] at hs; dsimp only at hs
        refine vc_e (e_sts (vs := [_, _, _, _, _, _]) st 3 rfl rfl rfl rfl rfl Tryd.sizeOf26 rfl rfl (by first | (right; assumption) | (left; simp)) ?_)
        intro w st; dsimp only [setNth, wr] at st
        refine vc_end ?_
        refine vq_block ?_
        refine vq_again ⟨(op, (here r1).at_, zx) :: zW, x2, r2, n, oaQ, capQ, zxs ++ pdC (op, (here r1).at_, zx) zox zcx, zSW ++ zSx, oy, cy, Sy⟩  ⟨rfl, rfl, rfl, rfl, rfl, trivial⟩ (st.pick [2, 1, 3, 0, 4, 5] rfl (by decide)) ?_ ?_
        · exact ⟨(hsfr2.trans (List.tail_suffix _)).trans hsf1, by dsimp only; omega, by simp only [List.length_cons]; omega, by dsimp only; omega, hSW', hNSy, hs⟩
        · dsimp only; omega

end Go.Proofs.YtggnfanphcaamaaDoor


/- The engine, sixteenth part: a text that grows in somebody's memory: a struct of a byte slice and a flag. -/
namespace Sx
open Go Go.RowKit
set_option linter.unusedVariables false
set_option linter.unusedSimpArgs false

theorem loc_owns (E n : Nat) (v : Value) (xs : List Value) : Loc v.ownBlock.toList fun w => w.ownsRow 0 E 1 v n xs := by
  intro w w' hs hk ⟨h1, h2⟩
  refine ⟨h1, h2.imp id fun ⟨g, cap, cur, e, hb, hc, hr⟩ => ⟨g, cap, cur, e, hb, ?_, hr⟩⟩
  rw [hk g (by rw [e]; simp [Value.ownBlock])]; exact hc

section
variable {w0 w w' : World} {M : List Nat} {hs : List Res}

variable {P : Program} {n : Fr} {L : List Oper} {Q : Exit → Act → World → Prop} {kn : Kn} {N : Act → World → Prop}
variable {d ty : Nat} {pos : String} {aft : Array Edge} {g : Option (Nat × Bool)}

/-! ## the text -/
/-- what lies there tells of the text: all of it, or that it is too long -/
def WS (l : List UInt8) (many : Bool) (F : List UInt8) : Prop := (many = false ∧ l = F ∧ F.length ≤ 65536) ∨ (many = true ∧ 65536 < F.length ∧ l.length ≤ 65536)
theorem WS.le {l F : List UInt8} {m : Bool} (h : WS l m F) : l.length ≤ 65536 := by
  rcases h with ⟨_, rfl, h⟩ | ⟨_, _, h⟩ <;> exact h
theorem WS.put {l F : List UInt8} (h : WS l false F) {G : List UInt8} (hG : l.length + G.length ≤ 65536) : WS (l ++ G) false (F ++ G) := by
  rcases h with ⟨_, rfl, h⟩ | ⟨h, _⟩
  · exact .inl ⟨rfl, rfl, by simpa using hG⟩
  · cases h
/-- another text that is too long as well -/
theorem WS.swap {l F G G' : List UInt8} {m : Bool} (h : WS l m (F ++ G')) (hG : G' = G ∨ 65536 < G'.length ∧ 65536 < G.length) : WS l m (F ++ G) := by
  rcases hG with rfl | ⟨h1, h2⟩
  · exact h
  · rcases h with ⟨_, rfl, h⟩ | ⟨rfl, _, h⟩
    · simp at h; omega
    · exact .inr ⟨rfl, by simp; omega, h⟩
def Wr (E n0 T bw : Nat) (v : Value) (F : List UInt8) (w : World) : Prop := ∃ l many, w.heap[bw]? = some (.cells #[v, .bool many] T (0, 0)) ∧ w.ownsRow 0 E 1 v l.length (bytesL l) ∧ WS l many F ∧ n0 ≤ bw ∧ ∀ k, v.ownBlock = some k → n0 ≤ k ∧ k ≠ bw
def WrP (E n0 T bw : Nat) (v : Value) (F : List UInt8) (w w' : World) : Prop := ∃ v', Wr E n0 T bw v' F w' ∧ Chg (bw :: v.ownBlock.toList) w w' ∧ ∀ k, v'.ownBlock = some k → v.ownBlock = some k ∨ w.heap.size ≤ k
def wrR (M : List Nat) (base E n0 T bw : Nat) (v : Value) (F : List UInt8) : Res := .tree (bw :: v.ownBlock.toList) fun w => Wr E n0 T bw v F w ∧ (bw ∈ M ∨ base ≤ bw) ∧ ∀ k, v.ownBlock = some k → k ∈ M ∨ base ≤ k
variable {E n0 T bw : Nat} {v : Value} {F : List UInt8}
theorem Wr.lt (h : Wr E n0 T bw v F w) : ∀ k ∈ bw :: v.ownBlock.toList, k < w.heap.size := by
  obtain ⟨l, many, hb, ho, hws, h1, h2⟩ := h
  intro k hk
  rcases List.mem_cons.1 hk with rfl | hk
  · exact (Array.getElem?_eq_some_iff.1 hb).1
  · exact (World.ownsRow.lt ho k (by simpa using hk)).2
theorem Wr.loc : Loc (bw :: v.ownBlock.toList) (Wr E n0 T bw v F) := by
  intro a b hs hk ⟨l, many, hb, ho, hr⟩
  exact ⟨l, many, by rw [hk bw (.head _)]; exact hb, loc_owns E _ v _ a b hs (fun k h => hk k (.tail _ h)) ho, hr⟩
theorem wrR_holds {base' base : Nat} (h : Wr E n0 T bw v F w) (hb : bw ∈ M ∨ base ≤ bw) (hm : ∀ k, v.ownBlock = some k → k ∈ M ∨ base ≤ k) : (wrR M base E n0 T bw v F).holds base' w :=
  ⟨⟨h, hb, hm⟩, h.lt, fun a b hs hk h => ⟨Wr.loc a b hs hk h.1, h.2⟩⟩
/-- a callee has written -/
theorem St.wr (st : St w0 M hs w) {i : Nat} {F' : List UInt8} (hi : nth hs i = some (wrR M w0.heap.size E n0 T bw v F)) (p : WrP E n0 T bw v F' w w') : ∃ v', St w0 M (setNth hs i (wrR M w0.heap.size E n0 T bw v' F')) w' := by
  obtain ⟨v', h1, h2, h3⟩ := p
  obtain ⟨⟨k1, k2, k3⟩, -⟩ := st.res hi
  refine ⟨v', st.swap hi h2 (by simp [Res.at?, wrR]) (fun k hk => ?_) (fun k hk => ?_) (wrR_holds h1 k2 fun k hk => ?_)⟩
  · rcases List.mem_cons.1 hk with rfl | hk
    · exact k2
    · exact k3 k (by simpa using hk)
  · simp only [Res.at?, wrR, List.mem_cons, Option.mem_toList] at hk ⊢
    rcases hk with rfl | hk
    · exact .inl (.inl rfl)
    · exact (h3 k hk).imp .inr id
  · rcases h3 k hk with h | h
    · exact k3 k h
    · exact .inr (Nat.le_trans st.chg.size h)
/-- what lies in other blocks stays -/
theorem Wr.same (h : Wr E n0 T bw v F w) (c : Chg (bw :: v.ownBlock.toList) w w') : w.heap.size ≤ w'.heap.size ∧ ∀ b, b < n0 → b < w.heap.size → w'.heap[b]? = w.heap[b]? := by
  obtain ⟨l, many, hb, ho, hws, h1, h2⟩ := h
  refine ⟨c.size, fun b hb hl => c.block b hl fun hk => ?_⟩
  rcases List.mem_cons.1 hk with rfl | hk
  · omega
  · have := (h2 b (by simpa using hk)).1; omega
end
end Sx


/- The engine, seventeenth part: a byte slice in a box that a closure holds. -/
namespace Sx
open Go Go.RowKit
set_option linter.unusedVariables false
set_option linter.unusedSimpArgs false
section
variable {w0 w w' : World} {M : List Nat} {hs : List Res} {E n0 T b n n' : Nat} {v v' : Value} {l l' : List UInt8} {xs xs' : List Value}

theorem St.split2 {q r s : Res} (st : St w0 M (q :: hs) w) (h1 : ∀ k ∈ r.at?, k ∈ q.at?) (h2 : ∀ k ∈ s.at?, k ∈ q.at?) (h3 : ∀ k ∈ r.at?, k ∉ s.at?) (hr : r.holds w0.heap.size w) (hs' : s.holds w0.heap.size w) : St w0 M (r :: s :: hs) w := by
  have hnd := List.pairwise_cons.1 st.nodup
  refine ⟨st.chg, List.pairwise_cons.2 ⟨fun x hx => ?_, List.pairwise_cons.2 ⟨fun x hx k hk => hnd.1 x hx k (h2 k hk), hnd.2⟩⟩, fun x hx => ?_⟩
  · rcases List.mem_cons.1 hx with rfl | hx
    · exact h3
    · exact fun k hk => hnd.1 x hx k (h1 k hk)
  · rcases List.mem_cons.1 hx with rfl | hx
    · exact hr
    · rcases List.mem_cons.1 hx with rfl | hx
      · exact hs'
      · exact st.here x (.tail _ hx)

def Bx (E n0 T b : Nat) (v : Value) (l : List UInt8) (w : World) : Prop := w.heap[b]? = some (.cells #[v] T (0, 0)) ∧ w.ownsRow 0 E 1 v l.length (bytesL l) ∧ n0 ≤ b ∧ ∀ k, v.ownBlock = some k → n0 ≤ k ∧ k ≠ b
theorem Bx.loc : Loc (b :: v.ownBlock.toList) (Bx E n0 T b v l) := by
  intro a c hs hk ⟨hb, ho, hr⟩
  exact ⟨by rw [hk b (.head _)]; exact hb, loc_owns E _ v _ a c hs (fun k h => hk k (.tail _ h)) ho, hr⟩
theorem Bx.lt (h : Bx E n0 T b v l w) : ∀ k ∈ b :: v.ownBlock.toList, k < w.heap.size := by
  obtain ⟨hb, ho, h1, h2⟩ := h
  intro k hk
  rcases List.mem_cons.1 hk with rfl | hk
  · exact (Array.getElem?_eq_some_iff.1 hb).1
  · exact (World.ownsRow.lt ho k (by simpa using hk)).2
end
end Sx


/- A parser's statements. -/
namespace Sx
open Go Go.RowKit LexS ParS
set_option linter.unusedVariables false
set_option linter.unusedSimpArgs false
abbrev sm00 (a : Int) : List Value := [.int .u8 0, str [], str [], .slice none 0 0, .slice none 0 0, .slice none 0 0, .int .i64 a]
def choiceP (e : Nat) (blk : List Tok → PR (List Sm)) (a : Nat) (r0 : List Tok) : PR Sm := match condP e r0 with
  | .error f => .error f
  | .ok (x, r) => match blk r with
    | .error f => .error f
    | .ok (b, r1) => if isT wElse r1 = true then (match blk r1.tail with
        | .error f => .error f
        | .ok (l, r2) => .ok (.mk 3 [] [] [x] b l (a : Int), r2))
      else .ok (.mk 3 [] [] [x] b [] (a : Int), r1)
def loopP (e : Nat) (blk : List Tok → PR (List Sm)) (a : Nat) (r0 : List Tok) : PR Sm := match condP e r0 with
  | .error f => .error f
  | .ok (x, r) => match blk r with
    | .error f => .error f
    | .ok (b, r1) => .ok (.mk 4 [] [] [x] b [] (a : Int), r1)
def guardP (e : Nat) (blk : List Tok → PR (List Sm)) (a : Nat) (r0 : List Tok) : PR Sm := match nameP e r0 with
  | .error f => .error f
  | .ok (t, r) => match blk r with
    | .error f => .error f
    | .ok (b, r1) => .ok (.mk 5 t.text [] [] b [] (a : Int), r1)
def printP (e : Nat) (a : Nat) (r0 : List Tok) : PR Sm := match exprP e 64 r0 with
  | .error f => .error f
  | .ok (x, r) => match want e [59] r with
    | .error f => .error f
    | .ok r' => .ok (.mk 6 [] [] [x] [] [] (a : Int), r')
def skipP (e : Nat) (a : Nat) (r0 : List Tok) : PR Sm := match want e [59] r0 with
  | .error f => .error f
  | .ok r => .ok (.mk 7 [] [] [] [] [] (a : Int), r)
theorem stmtW_eq (e : Nat) (blk : List Tok → PR (List Sm)) (ts : List Tok) : stmtW e blk ts =
    if formT (here ts) wIf = true then choiceP e blk (atT e ts) ts.tail
    else if formT (here ts) wWhile = true then loopP e blk (atT e ts) ts.tail
    else if formT (here ts) wLock = true then guardP e blk (atT e ts) ts.tail
    else if formT (here ts) wPrint = true then printP e (atT e ts) ts.tail
    else if formT (here ts) wSkip = true then skipP e (atT e ts) ts.tail
    else assignP e (atT e ts) ts := by
  unfold stmtW choiceP loopP guardP printP skipP
  have hx : ∀ r, exprSemi e r = match exprP e 64 r with
      | .error f => .error f
      | .ok (x, r) => match want e [59] r with
        | .error f => .error f
        | .ok r' => .ok (x, r') := fun r => rfl
  split
  · rfl
  · split
    · rfl
    · split
      · rfl
      · split
        · rw [hx]
          cases exprP e 64 ts.tail with
          | error f => rfl
          | ok p =>
            simp only
            cases want e [59] p.2 <;> rfl
        · split <;> rfl
/-- the pieces of an assignment -/
theorem assignP_eq (e a : Nat) (ts : List Tok) : assignP e a ts = match nameP e ts with
    | .error f => .error f
    | .ok (t, r) => match want e [61] r with
      | .error f => .error f
      | .ok r1 => if isT wSwap r1 = true then (match want e [40] r1.tail with
          | .error f => .error f
          | .ok r2 => match nameP e r2 with
            | .error f => .error f
            | .ok (o, r3) => match want e [44] r3 with
              | .error f => .error f
              | .ok r4 => match exprP e 64 r4 with
                | .error f => .error f
                | .ok (x, r5) => match wantL e [[41], [59]] r5 with
                  | .error f => .error f
                  | .ok r6 => .ok (.mk 2 t.text o.text [x] [] [] (a : Int), r6))
        else match exprP e 64 r1 with
          | .error f => .error f
          | .ok (x, r2) => match want e [59] r2 with
            | .error f => .error f
            | .ok r3 => .ok (.mk 1 t.text [] [x] [] [] (a : Int), r3) := by
  unfold assignP swapP exprSemi
  cases nameP e ts with
  | error f => rfl
  | ok p =>
    simp only
    cases want e [61] p.2 with
    | error f => rfl
    | ok r1 =>
      simp only
      split
      · cases want e [40] r1.tail with
        | error f => rfl
        | ok r2 =>
          simp only
          cases nameP e r2 with
          | error f => rfl
          | ok q =>
            simp only
            cases want e [44] q.2 with
            | error f => rfl
            | ok r4 =>
              simp only
              cases exprP e 64 r4 with
              | error f => rfl
              | ok y =>
                simp only [wantL]
                cases want e [41] y.2 with
                | error f => rfl
                | ok r5 =>
                  simp only
                  cases want e [59] r5 <;> rfl
      · cases exprP e 64 r1 with
        | error f => rfl
        | ok y =>
          simp only
          cases want e [59] y.2 <;> rfl
/-- a block's reader; 'm': how much deeper blocks may lie -/
def blkP (e : Nat) : Nat → List Tok → PR (List Sm)
  | 0, r => if isT [123] r = true then fail e 3 r else fail e 2 r
  | m + 1, r => match want e [123] r with
    | .error f => .error f
    | .ok r1 => restW (stmtP e m) (r1.length + 1) r1
theorem stmtP_blk (e m : Nat) : stmtP e m = stmtW e (blkP e m) := by
  cases m with
  | zero => funext ts; rw [stmtP]; rfl
  | succ m => funext ts; rw [stmtP]; rfl
/-- statements, so many having come -/
def contS (st : List Tok → PR Sm) (n : Nat) (acc : List Sm) (r : List Tok) : PR (List Sm) := match restW st n r with
  | .error f => .error f
  | .ok (l, r') => .ok (acc ++ l, r')
theorem contS_nil (st : List Tok → PR Sm) (n : Nat) (r : List Tok) : restW st n r = contS st n [] r := by unfold contS; cases restW st n r with | error f => rfl | ok p => rfl
theorem contS_end {st : List Tok → PR Sm} {n : Nat} {acc : List Sm} {r : List Tok} (h : isT [125] r = true) : contS st (n + 1) acc r = .ok (acc, r.tail) := by simp only [contS, restW, if_pos h, List.append_nil]
theorem contS_step {st : List Tok → PR Sm} {n : Nat} {acc : List Sm} {r : List Tok} (h : isT [125] r = false) : contS st (n + 1) acc r = match st r with
    | .error f => .error f
    | .ok (s, r') => contS st n (acc ++ [s]) r' := by
  simp only [contS, restW, if_neg (show ¬ isT [125] r = true by simp [h])]
  cases st r with
  | error f => rfl
  | ok p =>
    simp only
    cases restW st n p.2 with
    | error f => rfl
    | ok q => simp
section
variable {tE tS : Nat} {w : World}
theorem exr_nil : ExR tE w none 0 [] [] := ⟨[], [], World.ownsRow_nil _ _ _ _, rfl, rfl, rfl⟩
theorem smr_nil : SmR tE tS w none 0 [] [] := ⟨[], [], World.ownsRow_nil _ _ _ _, rfl, rfl, rfl⟩
/-- what a statement's reader leaves in its block -/
def StIn (tE tS xb : Nat) (n : Nat) (s : Sm) (w' : World) : Prop := ∃ oe ob ol ce cb cl Se Sb Sl, w'.heap[xb]? = some (.cells (smC s oe ob ol ce cb cl).toArray tS (0, 0)) ∧ ExR tE w' oe ce s.e Se ∧ SmR tE tS w' ob cb s.body Sb ∧ SmR tE tS w' ol cl s.els Sl ∧ Nw n (Se ++ (Sb ++ Sl))
theorem getF5 {v1 v2 v3 v4 v5 : Value} (s : List UInt8) : (s = wIf ∧ getF [(wIf, v1), (wWhile, v2), (wLock, v3), (wPrint, v4), (wSkip, v5)] s = some v1) ∨ (s = wWhile ∧ getF [(wIf, v1), (wWhile, v2), (wLock, v3), (wPrint, v4), (wSkip, v5)] s = some v2) ∨
    (s = wLock ∧ getF [(wIf, v1), (wWhile, v2), (wLock, v3), (wPrint, v4), (wSkip, v5)] s = some v3) ∨ (s = wPrint ∧ getF [(wIf, v1), (wWhile, v2), (wLock, v3), (wPrint, v4), (wSkip, v5)] s = some v4) ∨ (s = wSkip ∧ getF [(wIf, v1), (wWhile, v2), (wLock, v3), (wPrint, v4), (wSkip, v5)] s = some v5) ∨
    ((s ≠ wIf ∧ s ≠ wWhile ∧ s ≠ wLock ∧ s ≠ wPrint ∧ s ≠ wSkip) ∧ getF [(wIf, v1), (wWhile, v2), (wLock, v3), (wPrint, v4), (wSkip, v5)] s = none) := by
  by_cases h1 : s = wIf
  · exact .inl ⟨h1, by simp [getF, h1]⟩
  by_cases h2 : s = wWhile
  · exact .inr (.inl ⟨h2, by subst h2; simp [getF, h1]⟩)
  by_cases h3 : s = wLock
  · exact .inr (.inr (.inl ⟨h3, by subst h3; simp [getF, h1, h2]⟩))
  by_cases h4 : s = wPrint
  · exact .inr (.inr (.inr (.inl ⟨h4, by subst h4; simp [getF, h1, h2, h3]⟩)))
  by_cases h5 : s = wSkip
  · exact .inr (.inr (.inr (.inr (.inl ⟨h5, by subst h5; simp [getF, h1, h2, h3, h4]⟩))))
  · exact .inr (.inr (.inr (.inr (.inr ⟨⟨h1, h2, h3, h4, h5⟩, by simp [getF, h1, h2, h3, h4, h5]⟩))))
end
end Sx
namespace Sx
open Go Go.RowKit LexS ParS
set_option linter.unusedVariables false
section
variable {w w' w0 : World} {M : List Nat} {hs : List Res}
/-- two blocks have been written on by a callee, and something new has come -/
theorem St.prs2 {b1 b2 : Nat} {o1 o2 o1' o2' : Obj} {q : Res} (st : St w0 M (.blk b1 o1 :: .blk b2 o2 :: hs) w) (ch : Chg [b1, b2] w w') (hm1 : b1 ∈ M ∨ w0.heap.size ≤ b1) (hm2 : b2 ∈ M ∨ w0.heap.size ≤ b2)
    (h1 : w'.heap[b1]? = some o1') (h2 : w'.heap[b2]? = some o2') (hq : q.holds w0.heap.size w') (hqa : ∀ k ∈ q.at?, w.heap.size ≤ k) : St w0 M (q :: .blk b1 o1' :: .blk b2 o2' :: hs) w' := by
  have hne : b1 ≠ b2 := st.bne 0 1 (by decide) rfl rfl
  have l1 : b1 < w.heap.size := (Array.getElem?_eq_some_iff.1 (st.res (i := 0) rfl)).1
  have l2 : b2 < w.heap.size := (Array.getElem?_eq_some_iff.1 (st.res (i := 1) rfl)).1
  have st1 := st.join (q := .tree [b1, b2] (fun _ => True)) (fun k hk => by
    simp only [Res.at?, List.mem_cons, List.not_mem_nil, or_false] at hk ⊢; exact hk) ⟨trivial, fun k hk => by
      simp only [List.mem_cons, List.not_mem_nil, or_false] at hk
      rcases hk with rfl | rfl <;> assumption, fun _ _ _ _ _ => trivial⟩
  have st2 := st1.swapPush (i := 0) (r' := .tree [b1, b2] (fun _ => True)) rfl ch (fun k hk => hk) (fun k hk => by
      simp only [List.mem_cons, List.not_mem_nil, or_false] at hk
      rcases hk with rfl | rfl <;> assumption) (fun k hk => hk) ⟨trivial, fun k hk => by
      simp only [List.mem_cons, List.not_mem_nil, or_false] at hk
      rcases hk with rfl | rfl
      · exact Nat.lt_of_lt_of_le l1 ch.size
      · exact Nat.lt_of_lt_of_le l2 ch.size, fun _ _ _ _ _ => trivial⟩ hq hqa
  have st3 := st2.perm (List.Perm.swap _ _ _)
  have st4 := st3.split2 (r := .blk b1 o1') (s := .blk b2 o2') (fun k hk => by
    simp only [Res.at?, List.mem_cons, List.not_mem_nil, or_false] at hk ⊢; exact .inl hk) (fun k hk => by
    simp only [Res.at?, List.mem_cons, List.not_mem_nil, or_false] at hk ⊢; exact .inr hk) (fun k hk hk' => by
    simp only [Res.at?, List.mem_cons, List.not_mem_nil, or_false] at hk hk'; exact hne (hk.symm.trans hk')) h1 h2
  exact st4.perm ((List.Perm.cons _ (List.Perm.swap _ _ _)).trans (List.Perm.swap _ _ _))
end
theorem form_ne {t : Tok} {s s' : List UInt8} (h : t.text = s') (hne : s' ≠ s) : ¬ formT t s = true := by unfold formT; simp [h, hne]
theorem stmtW_assign {e : Nat} {blk : List Tok → PR (List Sm)} {ts : List Tok} (h : ((here ts).text ≠ wIf ∧ (here ts).text ≠ wWhile ∧ (here ts).text ≠ wLock ∧ (here ts).text ≠ wPrint ∧ (here ts).text ≠ wSkip) ∨ (here ts).kind ≠ 2) :
    stmtW e blk ts = assignP e (atT e ts) ts := by
  have key : ∀ s, (here ts).text ≠ s ∨ (here ts).kind ≠ 2 → ¬ formT (here ts) s = true := fun s h => by
    unfold formT
    rcases h with h | h <;> simp [h]
  rw [stmtW_eq, if_neg (key _ (h.imp (·.1) id)), if_neg (key _ (h.imp (·.2.1) id)), if_neg (key _ (h.imp (·.2.2.1) id)), if_neg (key _ (h.imp (·.2.2.2.1) id)), if_neg (key _ (h.imp (·.2.2.2.2) id))]
end Sx

