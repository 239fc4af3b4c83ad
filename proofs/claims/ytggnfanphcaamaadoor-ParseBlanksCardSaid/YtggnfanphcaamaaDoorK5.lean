/- A part of the proof: contracts of functions and plain laws; each theorem says its own conditions. -/
import Derived.Test.YtggnfanphcaamaaDoorQC
import Derived.Test.YtggnfanphcaamaaDoorK0
import Derived.Test.YtggnfanphcaamaaDoorK3
namespace Go.Proofs.YtggnfanphcaamaaDoor
open Go.RowKit Sx LexS ParS
set_option linter.unusedVariables false
set_option linter.unusedSimpArgs false
theorem inner_kind {r : List Tok} (h : innerT r = true) : (here r).kind = 2 ∨ (here r).kind = 4 := by
  unfold innerT isT at h
  simp only [Bool.or_eq_true, Bool.and_eq_true, decide_eq_true_eq] at h
  rcases h with (h | h) | h <;> exact h.2
theorem unary_out {e m : Nat} {r : List Tok} (h : innerT r = false) : unaryP e m r = leafP e r := by
  cases m with
  | zero => simp only [unaryP]; rw [if_neg (by simp [h])]
  | succ m => simp only [unaryP]; rw [if_neg (by simp [h])]
theorem unary_deep {e : Nat} {r : List Tok} (h : innerT r = true) : unaryP e 0 r = fail e 3 r := by simp only [unaryP]; rw [if_pos h]
theorem unary_par {e m : Nat} {r : List Tok} (h : innerT r = true) (h2 : (here r).text = [40]) : unaryP e (m + 1) r = match exprW (unaryP e m) r.tail with
    | .error f => .error f
    | .ok (x, r1) => match want e [41] r1 with
      | .error f => .error f
      | .ok r2 => .ok (x, r2) := by
  simp only [unaryP]; rw [if_pos h, if_pos h2]; rfl
theorem unary_op {e m : Nat} {r : List Tok} (h : innerT r = true) (h2 : ¬ (here r).text = [40]) : unaryP e (m + 1) r = match unaryP e m r.tail with
    | .error f => .error f
    | .ok (x, r1) => .ok (.mk 3 (if (here r).text = [33] then 18 else 17) 0 [] [x] ((here r).at_ : Int), r1) := by
  simp only [unaryP]; rw [if_pos h, if_neg h2]; rfl

set_option maxHeartbeats 1000000 in
theorem punary_of (c : PCtx) (hR : c.R = 65) (d m : Nat) (hd : d + m = 64) (hE : ∀ k, m = k + 1 → DRead 29 c (d + 1) (exprW (unaryP c.e k))) (hU : ∀ k, m = k + 1 → DRead 57 c (d + 1) (unaryP c.e k)) : DRead 57 c d (unaryP c.e m) := by
  intro r hr w hC hP
  refine retp_of [_, _] Tryd.func57 rfl Tryd.ntmps57 rfl ?_
  
  obtain ⟨w0, rfl⟩ : ∃ w0, w0 = w := ⟨_, rfl⟩
  have hP' := hP
  dsimp only [PAt, pcell] at hP
  have st := St.of1 [c.pb] hP
  have h20 := hC.len
  have hl := suf_len hr
  refine vc_seq ?_
  refine vc_region ?_
  refine vc_e (e_al (l := [_, _, _, _, _, _]) st rfl rfl Tryd.zeroValue26 rfl ?_)
  intro b4 w hb4 st
  refine vc_end ?_
  refine vq_then ?_
  refine vc_keep [(0, _), (1, _), (4, _)] ⟨rfl, rfl, rfl, trivial⟩ ?_
  refine vc_seq ?_
  refine vc_region ?_
  refine vc_y rfl rfl (y_mv rfl) ?_
  refine vc_e (e_call [_] rfl rfl Tryd.call58 rfl (phere_any c r hr _ (hC.k1 st.chg) (by first | exact st.res (i := 0) rfl | exact st.res (i := 1) rfl | exact st.res (i := 2) rfl | exact st.res (i := 3) rfl | exact st.res (i := 4) rfl | exact st.res (i := 5) rfl | exact st.res (i := 6) rfl | exact st.res (i := 7) rfl | exact st.res (i := 8) rfl | exact st.res (i := 9) rfl)) ?_)
  rintro _ w ⟨rfl, cw⟩
  replace st := st.call0 cw
  refine vc_e (e_al (l := [_, _, _, _]) st rfl rfl Tryd.zeroValue53 rfl ?_)
  intro b5 w hb5 st
  first
  | refine vc_e (e_sts (vs := [_, _, _, _]) st 0 rfl rfl rfl rfl rfl Tryd.sizeOf53 rfl rfl (by first | (right; assumption) | (left; simp)) ?_)
  | refine vc_e (e_sts (vs := [_, _, _, _]) st 1 rfl rfl rfl rfl rfl Tryd.sizeOf53 rfl rfl (by first | (right; assumption) | (left; simp)) ?_)
  | refine vc_e (e_sts (vs := [_, _, _, _]) st 2 rfl rfl rfl rfl rfl Tryd.sizeOf53 rfl rfl (by first | (right; assumption) | (left; simp)) ?_)
  | refine vc_e (e_sts (vs := [_, _, _, _]) st 3 rfl rfl rfl rfl rfl Tryd.sizeOf53 rfl rfl (by first | (right; assumption) | (left; simp)) ?_)
  | refine vc_e (e_sts (vs := [_, _, _, _]) st 4 rfl rfl rfl rfl rfl Tryd.sizeOf53 rfl rfl (by first | (right; assumption) | (left; simp)) ?_)
  | refine vc_e (e_sts (vs := [_, _, _, _]) st 5 rfl rfl rfl rfl rfl Tryd.sizeOf53 rfl rfl (by first | (right; assumption) | (left; simp)) ?_)
  | refine vc_e (e_sts (vs := [_, _, _, _]) st 6 rfl rfl rfl rfl rfl Tryd.sizeOf53 rfl rfl (by first | (right; assumption) | (left; simp)) ?_)
  | refine vc_e (e_sts (vs := [_, _, _, _]) st 7 rfl rfl rfl rfl rfl Tryd.sizeOf53 rfl rfl (by first | (right; assumption) | (left; simp)) ?_)
  | refine vc_e (e_sts (vs := [_, _, _, _]) st 8 rfl rfl rfl rfl rfl Tryd.sizeOf53 rfl rfl (by first | (right; assumption) | (left; simp)) ?_)
  intro w st; dsimp only [setNth, wr] at st
  refine vc_end ?_
  refine vq_then ?_
  refine vc_keep [(0, _), (1, _), (4, _), (5, _)] ⟨rfl, rfl, rfl, rfl, trivial⟩ ?_
  refine vc_cut (w0 := w0) (M := [c.pb]) (fun (b : Bool) => [(0, .pointer (some ⟨c.pb, 0, none⟩)), (1, .int .i64 (d : Int)), (4, .pointer (some ⟨b4, 0, none⟩)), (5, .pointer (some ⟨b5, 0, none⟩)), (6, .bool b)]) (fun _ => [.blk b5 (.cells (tkL (here r)).toArray 53 (0, 0)), .blk b4 (.cells ex00.toArray 26 (0, 0)), .blk c.pb (.cells (pcell c r).toArray c.T (0, 0))]) (fun b _ => b = innerT r) ?_ ?_
  ·
    refine vc_region ?_
    refine vc_y rfl rfl (y_mv rfl) ?_
    refine vc_e (e_call [_, _] rfl rfl Tryd.call71 rfl (pis_any c [45] r hr _ (hC.k1 st.chg) (by first | exact st.res (i := 0) rfl | exact st.res (i := 1) rfl | exact st.res (i := 2) rfl | exact st.res (i := 3) rfl | exact st.res (i := 4) rfl | exact st.res (i := 5) rfl | exact st.res (i := 6) rfl | exact st.res (i := 7) rfl | exact st.res (i := 8) rfl | exact st.res (i := 9) rfl)) ?_)
    rintro _ w ⟨rfl, cw⟩
    replace st := st.call0 cw
    refine vc_e (e_mvb rfl rfl rfl ?_ ?_)
    · intro hg13
      try simp only [decide_eq_true_eq, decide_eq_false_iff_not, Bool.not_eq_true', Bool.not_eq_false', Bool.not_eq_true, Bool.not_eq_false, Int.not_lt, Int.not_le, Nat.not_lt, Nat.not_le, Bool.not_true, Bool.not_false, Bool.true_eq_false, Bool.false_eq_true] at hg13
      refine vc_e (e_skip rfl rfl ?_)
      refine vc_e (e_skip rfl rfl ?_)
      refine vc_y rfl rfl (y_pickt rfl rfl) ?_
      refine vc_y rfl rfl (y_mv rfl) ?_
      refine vc_e (e_skip rfl rfl ?_)
      refine vc_e (e_skip rfl rfl ?_)
      refine vc_y rfl rfl (y_pickt rfl rfl) ?_
      refine vc_y rfl rfl (y_as rfl) ?_
      refine vc_end ?_
      refine vq_meet true ⟨rfl, rfl, rfl, rfl, rfl, trivial⟩ st ?_
      · show true = _
        unfold innerT; rw [hg13]; rfl
    · intro hg13
      try simp only [decide_eq_true_eq, decide_eq_false_iff_not, Bool.not_eq_true', Bool.not_eq_false', Bool.not_eq_true, Bool.not_eq_false, Int.not_lt, Int.not_le, Nat.not_lt, Nat.not_le, Bool.not_true, Bool.not_false, Bool.true_eq_false, Bool.false_eq_true] at hg13
      refine vc_y rfl rfl (y_mv rfl) ?_
      refine vc_e (e_call [_, _] rfl rfl Tryd.call71 rfl (pis_any c [33] r hr _ (hC.k1 st.chg) (by first | exact st.res (i := 0) rfl | exact st.res (i := 1) rfl | exact st.res (i := 2) rfl | exact st.res (i := 3) rfl | exact st.res (i := 4) rfl | exact st.res (i := 5) rfl | exact st.res (i := 6) rfl | exact st.res (i := 7) rfl | exact st.res (i := 8) rfl | exact st.res (i := 9) rfl)) ?_)
      rintro _ w ⟨rfl, cw⟩
      replace st := st.call0 cw
      refine vc_y rfl rfl (y_pickf rfl rfl) ?_
      refine vc_e (e_mvb rfl rfl rfl ?_ ?_)
      · intro hg17
        try simp only [decide_eq_true_eq, decide_eq_false_iff_not, Bool.not_eq_true', Bool.not_eq_false', Bool.not_eq_true, Bool.not_eq_false, Int.not_lt, Int.not_le, Nat.not_lt, Nat.not_le, Bool.not_true, Bool.not_false, Bool.true_eq_false, Bool.false_eq_true] at hg17
        refine vc_e (e_skip rfl rfl ?_)
        refine vc_e (e_skip rfl rfl ?_)
        refine vc_y rfl rfl (y_pickt rfl rfl) ?_
        refine vc_y rfl rfl (y_as rfl) ?_
        refine vc_end ?_
        refine vq_meet true ⟨rfl, rfl, rfl, rfl, rfl, trivial⟩ st ?_
        · show true = _
          unfold innerT; rw [hg17]; simp
      · intro hg17
        try simp only [decide_eq_true_eq, decide_eq_false_iff_not, Bool.not_eq_true', Bool.not_eq_false', Bool.not_eq_true, Bool.not_eq_false, Int.not_lt, Int.not_le, Nat.not_lt, Nat.not_le, Bool.not_true, Bool.not_false, Bool.true_eq_false, Bool.false_eq_true] at hg17
        refine vc_y rfl rfl (y_mv rfl) ?_
        refine vc_e (e_call [_, _] rfl rfl Tryd.call71 rfl (pis_any c [40] r hr _ (hC.k1 st.chg) (by first | exact st.res (i := 0) rfl | exact st.res (i := 1) rfl | exact st.res (i := 2) rfl | exact st.res (i := 3) rfl | exact st.res (i := 4) rfl | exact st.res (i := 5) rfl | exact st.res (i := 6) rfl | exact st.res (i := 7) rfl | exact st.res (i := 8) rfl | exact st.res (i := 9) rfl)) ?_)
        rintro _ w ⟨rfl, cw⟩
        replace st := st.call0 cw
        refine vc_y rfl rfl (y_pickf rfl rfl) ?_
        refine vc_y rfl rfl (y_as rfl) ?_
        refine vc_end ?_
        refine vq_meet (isT [40] r) ⟨rfl, rfl, rfl, rfl, rfl, trivial⟩ st ?_
        · show isT [40] r = _
          unfold innerT; rw [hg13, hg17]; rfl
  ·
    clear st
    rintro inn w hin st
    refine vc_seq ?_
    refine vc_block ?_
    refine vc_seq ?_
    refine vc_region ?_
    refine vc_y rfl rfl (y_mv rfl) ?_
    refine vc_e (e_mvb rfl rfl rfl ?_ ?_)
    · intro hg23
      try simp only [decide_eq_true_eq, decide_eq_false_iff_not, Bool.not_eq_true', Bool.not_eq_false', Bool.not_eq_true, Bool.not_eq_false, Int.not_lt, Int.not_le, Nat.not_lt, Nat.not_le, Bool.not_true, Bool.not_false, Bool.true_eq_false, Bool.false_eq_true] at hg23
      subst hg23
      refine vc_y rfl rfl (y_mv rfl) ?_
      refine vc_y rfl rfl (y_eqi rfl rfl) ?_
      refine vc_y rfl rfl (y_pickt rfl rfl) ?_
      refine vc_y rfl rfl (y_as rfl) ?_
      refine vc_end ?_
      refine vq_then ?_
      refine vc_keep [(0, _), (1, _), (4, _), (5, _), (6, _), (21, _)] ⟨rfl, rfl, rfl, rfl, rfl, rfl, trivial⟩ ?_
      refine vc_ifs rfl ?_ ?_
      · intro hc21
        try simp only [decide_eq_true_eq, decide_eq_false_iff_not, Bool.not_eq_true', Bool.not_eq_false', Bool.not_eq_true, Bool.not_eq_false, Int.not_lt, Int.not_le, Nat.not_lt, Nat.not_le, Bool.not_true, Bool.not_false, Bool.true_eq_false, Bool.false_eq_true] at hc21
        have hd64 : d = 64 := by omega
        obtain rfl : m = 0 := by omega
        have hs := unary_deep (e := c.e) hin.symm
        refine vc_region ?_
        refine vc_y rfl rfl (y_mv rfl) ?_
        refine vc_e (e_callp [_, _] rfl rfl Tryd.call30 rfl (pfail_any c 3 r hr _ (hC.k1 st.chg) (by first | exact st.res (i := 0) rfl | exact st.res (i := 1) rfl | exact st.res (i := 2) rfl | exact st.res (i := 3) rfl | exact st.res (i := 4) rfl | exact st.res (i := 5) rfl | exact st.res (i := 6) rfl | exact st.res (i := 7) rfl | exact st.res (i := 8) rfl | exact st.res (i := 9) rfl) hR) (by rintro _ w' ⟨rfl, ch⟩ a ha; exact And.intro ha (Or.inr ⟨_, rfl, (atT c.e r, 3), by rw [hs]; rfl, rfl, st.chg.trans ch.of_nil⟩)) (fun _ _ h => h.elim))
      · intro hc21
        try simp only [decide_eq_true_eq, decide_eq_false_iff_not, Bool.not_eq_true', Bool.not_eq_false', Bool.not_eq_true, Bool.not_eq_false, Int.not_lt, Int.not_le, Nat.not_lt, Nat.not_le, Bool.not_true, Bool.not_false, Bool.true_eq_false, Bool.false_eq_true] at hc21
        have hd64 : ¬ d = 64 := by omega
        obtain ⟨m, rfl⟩ : ∃ k, m = k + 1 := ⟨m - 1, by omega⟩
        refine vc_seq ?_
        refine vc_region ?_
        refine vc_y rfl rfl (y_fa0 rfl Tryd.underlying53 rfl rfl Tryd.sizeOf51 rfl) ?_
        refine vc_y rfl rfl ((by first | exact y_ld st 0 rfl Tryd.isAgg51 rfl rfl | exact y_ld st 1 rfl Tryd.isAgg51 rfl rfl | exact y_ld st 2 rfl Tryd.isAgg51 rfl rfl | exact y_ld st 3 rfl Tryd.isAgg51 rfl rfl | exact y_ld st 4 rfl Tryd.isAgg51 rfl rfl | exact y_ld st 5 rfl Tryd.isAgg51 rfl rfl | exact y_ld st 6 rfl Tryd.isAgg51 rfl rfl | exact y_ld st 7 rfl Tryd.isAgg51 rfl rfl | exact y_ld st 8 rfl Tryd.isAgg51 rfl rfl)) ?_
        refine vc_y rfl rfl (y_eqi rfl rfl) ?_
        refine vc_y rfl rfl (y_as rfl) ?_
        refine vc_end ?_
        refine vq_then ?_
        refine vc_keep [(0, _), (1, _), (4, _), (5, _), (6, _), (29, _)] ⟨rfl, rfl, rfl, rfl, rfl, rfl, trivial⟩ ?_
        refine vc_ifs rfl ?_ ?_
        · intro hc29
          exfalso; have := inner_kind hin.symm; revert hc29; simp; omega
        · intro hc29
          try simp only [decide_eq_true_eq, decide_eq_false_iff_not, Bool.not_eq_true', Bool.not_eq_false', Bool.not_eq_true, Bool.not_eq_false, Int.not_lt, Int.not_le, Nat.not_lt, Nat.not_le, Bool.not_true, Bool.not_false, Bool.true_eq_false, Bool.false_eq_true] at hc29
          refine vc_seq ?_
          refine vc_region ?_
          refine vc_y rfl rfl (y_fa0 rfl Tryd.underlying53 rfl rfl Tryd.sizeOf51 rfl) ?_
          refine vc_y rfl rfl ((by first | exact y_ld st 0 rfl Tryd.isAgg51 rfl rfl | exact y_ld st 1 rfl Tryd.isAgg51 rfl rfl | exact y_ld st 2 rfl Tryd.isAgg51 rfl rfl | exact y_ld st 3 rfl Tryd.isAgg51 rfl rfl | exact y_ld st 4 rfl Tryd.isAgg51 rfl rfl | exact y_ld st 5 rfl Tryd.isAgg51 rfl rfl | exact y_ld st 6 rfl Tryd.isAgg51 rfl rfl | exact y_ld st 7 rfl Tryd.isAgg51 rfl rfl | exact y_ld st 8 rfl Tryd.isAgg51 rfl rfl)) ?_
          refine vc_y rfl rfl (y_eqi rfl rfl) ?_
          refine vc_y rfl rfl (y_as rfl) ?_
          refine vc_end ?_
          refine vq_then ?_
          refine vc_keep [(0, _), (1, _), (4, _), (5, _), (6, _), (40, _)] ⟨rfl, rfl, rfl, rfl, rfl, rfl, trivial⟩ ?_
          refine vc_ifs rfl ?_ ?_
          · intro hc40
            exfalso; have := inner_kind hin.symm; revert hc40; simp; omega
          · intro hc40
            try simp only [decide_eq_true_eq, decide_eq_false_iff_not, Bool.not_eq_true', Bool.not_eq_false', Bool.not_eq_true, Bool.not_eq_false, Int.not_lt, Int.not_le, Nat.not_lt, Nat.not_le, Bool.not_true, Bool.not_false, Bool.true_eq_false, Bool.false_eq_true] at hc40
            refine vc_seq ?_
            refine vc_region ?_
            refine vc_y rfl rfl (y_mv rfl) ?_
            refine vc_y rfl rfl (y_not rfl) ?_
            refine vc_y rfl rfl (y_as rfl) ?_
            refine vc_end ?_
            refine vq_then ?_
            refine vc_keep [(0, _), (1, _), (4, _), (5, _), (51, _)] ⟨rfl, rfl, rfl, rfl, rfl, trivial⟩ ?_
            refine vc_ifs rfl ?_ ?_
            · intro hc51
              exfalso; revert hc51; simp
            · intro hc51
              try simp only [decide_eq_true_eq, decide_eq_false_iff_not, Bool.not_eq_true', Bool.not_eq_false', Bool.not_eq_true, Bool.not_eq_false, Int.not_lt, Int.not_le, Nat.not_lt, Nat.not_le, Bool.not_true, Bool.not_false, Bool.true_eq_false, Bool.false_eq_true] at hc51
              refine vc_code_skip ?_
              refine vq_block ?_
              refine vq_then ?_
              refine vc_keep [(0, _), (1, _), (4, _), (5, _)] ⟨rfl, rfl, rfl, rfl, trivial⟩ ?_
              refine vc_seq ?_
              refine vc_region ?_
              refine vc_y rfl rfl (y_mv rfl) ?_
              refine vc_e (e_call [_] rfl rfl Tryd.call60 rfl (pnext_any c r hr (inner_ne hin.symm) _ (hC.k1 st.chg) (by first | exact st.res (i := 0) rfl | exact st.res (i := 1) rfl | exact st.res (i := 2) rfl | exact st.res (i := 3) rfl | exact st.res (i := 4) rfl | exact st.res (i := 5) rfl | exact st.res (i := 6) rfl | exact st.res (i := 7) rfl | exact st.res (i := 8) rfl | exact st.res (i := 9) rfl)) ?_)
              rintro _ w ⟨rfl, hP1, cw⟩
              first
              | replace st := St.prs (b := c.pb) st 0 rfl cw (.inl (.head _)) hP1
              | replace st := St.prs (b := c.pb) st 1 rfl cw (.inl (.head _)) hP1
              | replace st := St.prs (b := c.pb) st 2 rfl cw (.inl (.head _)) hP1
              | replace st := St.prs (b := c.pb) st 3 rfl cw (.inl (.head _)) hP1
              | replace st := St.prs (b := c.pb) st 4 rfl cw (.inl (.head _)) hP1
              | replace st := St.prs (b := c.pb) st 5 rfl cw (.inl (.head _)) hP1
              | replace st := St.prs (b := c.pb) st 6 rfl cw (.inl (.head _)) hP1
              | replace st := St.prs (b := c.pb) st 7 rfl cw (.inl (.head _)) hP1
              | replace st := St.prs (b := c.pb) st 8 rfl cw (.inl (.head _)) hP1
              | replace st := St.prs (b := c.pb) st 9 rfl cw (.inl (.head _)) hP1
              dsimp only [setNth] at st
              refine vc_end ?_
              refine vq_then ?_
              refine vc_keep [(0, _), (1, _), (4, _), (5, _)] ⟨rfl, rfl, rfl, rfl, trivial⟩ ?_
              refine vc_seq ?_
              refine vc_seq ?_
              refine vc_region ?_
              refine vc_y rfl rfl ((by first | exact y_faz (k := 1) rfl Tryd.underlying53 rfl rfl Tryd.sizeOf9 rfl | exact y_fa (k := 1) rfl Tryd.underlying53 rfl rfl Tryd.sizeOf9 rfl)) ?_
              refine vc_y rfl rfl ((by first | exact y_ld st 0 rfl Tryd.isAgg9 rfl rfl | exact y_ld st 1 rfl Tryd.isAgg9 rfl rfl | exact y_ld st 2 rfl Tryd.isAgg9 rfl rfl | exact y_ld st 3 rfl Tryd.isAgg9 rfl rfl | exact y_ld st 4 rfl Tryd.isAgg9 rfl rfl | exact y_ld st 5 rfl Tryd.isAgg9 rfl rfl | exact y_ld st 6 rfl Tryd.isAgg9 rfl rfl | exact y_ld st 7 rfl Tryd.isAgg9 rfl rfl | exact y_ld st 8 rfl Tryd.isAgg9 rfl rfl)) ?_
              refine vc_y rfl rfl (y_eqs rfl rfl) ?_
              refine vc_end ?_
              refine vq_then ?_
              refine vc_keep [(0, _), (1, _), (4, _), (5, _), (60, _)] ⟨rfl, rfl, rfl, rfl, rfl, trivial⟩ ?_
              refine vc_ifs rfl ?_ ?_
              · intro hc60
                try simp only [decide_eq_true_eq, decide_eq_false_iff_not, Bool.not_eq_true', Bool.not_eq_false', Bool.not_eq_true, Bool.not_eq_false, Int.not_lt, Int.not_le, Nat.not_lt, Nat.not_le, Bool.not_true, Bool.not_false, Bool.true_eq_false, Bool.false_eq_true] at hc60
                have hs := unary_par (e := c.e) (m := m) hin.symm hc60
                have hne := inner_ne hin.symm
                have hlt := tail_lt hne
                have hr1 := suf_tail hr
                refine vc_seq ?_
                refine vc_region ?_
                refine vc_y rfl rfl (y_mv rfl) ?_
                refine vc_y rfl rfl (y_mv rfl) ?_
                refine vc_y rfl rfl (y_add rfl rfl (by omega : _ = ((d + 1 : Nat) : Int)) (by omega) (by omega)) ?_
                refine vc_e (e_callp [_, _] rfl rfl Tryd.call29 rfl (hE m rfl r.tail hr1 _ (hC.k1 st.chg) (by first | exact st.res (i := 0) rfl | exact st.res (i := 1) rfl | exact st.res (i := 2) rfl | exact st.res (i := 3) rfl | exact st.res (i := 4) rfl | exact st.res (i := 5) rfl | exact st.res (i := 6) rfl | exact st.res (i := 7) rfl | exact st.res (i := 8) rfl | exact st.res (i := 9) rfl)) (by rintro _ w' ⟨f, hf, rfl, ch⟩ a ha; exact And.intro ha (Or.inr ⟨_, rfl, f, by rw [hs, hf], rfl, st.chg.trans ch⟩)) ?_)
                rintro _ w ⟨x, r2, hx, hsfr2, hlnr2, hP1, cw, ox, cx, Sx, rfl, hQ, hN⟩
                have hNSx := hN.le st.chg.size
                first
                | replace st := St.prsT (b := c.pb) st 0 rfl cw (.inl (.head _)) hP1 (holds_ex hQ) hN.2
                | replace st := St.prsT (b := c.pb) st 1 rfl cw (.inl (.head _)) hP1 (holds_ex hQ) hN.2
                | replace st := St.prsT (b := c.pb) st 2 rfl cw (.inl (.head _)) hP1 (holds_ex hQ) hN.2
                | replace st := St.prsT (b := c.pb) st 3 rfl cw (.inl (.head _)) hP1 (holds_ex hQ) hN.2
                | replace st := St.prsT (b := c.pb) st 4 rfl cw (.inl (.head _)) hP1 (holds_ex hQ) hN.2
                | replace st := St.prsT (b := c.pb) st 5 rfl cw (.inl (.head _)) hP1 (holds_ex hQ) hN.2
                | replace st := St.prsT (b := c.pb) st 6 rfl cw (.inl (.head _)) hP1 (holds_ex hQ) hN.2
                | replace st := St.prsT (b := c.pb) st 7 rfl cw (.inl (.head _)) hP1 (holds_ex hQ) hN.2
                | replace st := St.prsT (b := c.pb) st 8 rfl cw (.inl (.head _)) hP1 (holds_ex hQ) hN.2
                | replace st := St.prsT (b := c.pb) st 9 rfl cw (.inl (.head _)) hP1 (holds_ex hQ) hN.2
                dsimp only [setNth] at st
                rw [hx] at hs; dsimp only at hs
                refine vc_e (e_al (l := [_, _, _, _, _, _]) st rfl rfl Tryd.zeroValue26 rfl ?_)
                intro b7 w hb7 st
                first
                | refine vc_e (e_sts (vs := [_, _, _, _, _, _]) st 0 rfl rfl rfl rfl rfl Tryd.sizeOf26 rfl rfl (by first | (right; assumption) | (left; simp)) ?_)
                | refine vc_e (e_sts (vs := [_, _, _, _, _, _]) st 1 rfl rfl rfl rfl rfl Tryd.sizeOf26 rfl rfl (by first | (right; assumption) | (left; simp)) ?_)
                | refine vc_e (e_sts (vs := [_, _, _, _, _, _]) st 2 rfl rfl rfl rfl rfl Tryd.sizeOf26 rfl rfl (by first | (right; assumption) | (left; simp)) ?_)
                | refine vc_e (e_sts (vs := [_, _, _, _, _, _]) st 3 rfl rfl rfl rfl rfl Tryd.sizeOf26 rfl rfl (by first | (right; assumption) | (left; simp)) ?_)
                | refine vc_e (e_sts (vs := [_, _, _, _, _, _]) st 4 rfl rfl rfl rfl rfl Tryd.sizeOf26 rfl rfl (by first | (right; assumption) | (left; simp)) ?_)
                | refine vc_e (e_sts (vs := [_, _, _, _, _, _]) st 5 rfl rfl rfl rfl rfl Tryd.sizeOf26 rfl rfl (by first | (right; assumption) | (left; simp)) ?_)
                | refine vc_e (e_sts (vs := [_, _, _, _, _, _]) st 6 rfl rfl rfl rfl rfl Tryd.sizeOf26 rfl rfl (by first | (right; assumption) | (left; simp)) ?_)
                | refine vc_e (e_sts (vs := [_, _, _, _, _, _]) st 7 rfl rfl rfl rfl rfl Tryd.sizeOf26 rfl rfl (by first | (right; assumption) | (left; simp)) ?_)
                | refine vc_e (e_sts (vs := [_, _, _, _, _, _]) st 8 rfl rfl rfl rfl rfl Tryd.sizeOf26 rfl rfl (by first | (right; assumption) | (left; simp)) ?_)
                intro w st; dsimp only [setNth, wr] at st
                refine vc_end ?_
                refine vq_then ?_
                refine vc_keep [(0, _), (4, _), (7, _)] ⟨rfl, rfl, rfl, trivial⟩ ?_
                refine vc_seq ?_
                refine vc_region ?_
                refine vc_y rfl rfl (y_mv rfl) ?_
                refine vc_e (e_bs1 (l := [_]) st rfl rfl rfl rfl Tryd.underlying50 Tryd.sizeOf9 rfl rfl rfl Tryd.zeroValue9 ?_)
                intro b66 w hb66 st
                refine vc_e (e_callp [_, _] rfl rfl Tryd.call81 rfl (pwant_any c [[41]] (by simp) _ _ _ _ rfl r2 (hsfr2.trans hr1) _ (hC.k1 st.chg) (by first | exact st.res (i := 0) rfl | exact st.res (i := 1) rfl | exact st.res (i := 2) rfl | exact st.res (i := 3) rfl | exact st.res (i := 4) rfl | exact st.res (i := 5) rfl | exact st.res (i := 6) rfl | exact st.res (i := 7) rfl | exact st.res (i := 8) rfl | exact st.res (i := 9) rfl) hR (st.res (i := 0) rfl) (by first | exact st.bne 0 1 (by decide) rfl rfl | exact st.bne 0 2 (by decide) rfl rfl | exact st.bne 0 3 (by decide) rfl rfl | exact st.bne 0 4 (by decide) rfl rfl | exact st.bne 0 5 (by decide) rfl rfl | exact st.bne 0 6 (by decide) rfl rfl)) (by rintro _ w' ⟨f, hf, rfl, ch⟩ a ha; rw [wantL_one] at hf; exact And.intro ha (Or.inr ⟨_, rfl, f, by rw [hs, hf], rfl, st.chg.trans ch⟩)) ?_)
                rintro _ w ⟨r3, hx, hsfr3, hlnr3, hP1, cw⟩
                rw [wantL_one] at hx
                rw [hx] at hs; dsimp only at hs
                first
                | replace st := St.prs (b := c.pb) st 0 rfl cw (.inl (.head _)) hP1
                | replace st := St.prs (b := c.pb) st 1 rfl cw (.inl (.head _)) hP1
                | replace st := St.prs (b := c.pb) st 2 rfl cw (.inl (.head _)) hP1
                | replace st := St.prs (b := c.pb) st 3 rfl cw (.inl (.head _)) hP1
                | replace st := St.prs (b := c.pb) st 4 rfl cw (.inl (.head _)) hP1
                | replace st := St.prs (b := c.pb) st 5 rfl cw (.inl (.head _)) hP1
                | replace st := St.prs (b := c.pb) st 6 rfl cw (.inl (.head _)) hP1
                | replace st := St.prs (b := c.pb) st 7 rfl cw (.inl (.head _)) hP1
                | replace st := St.prs (b := c.pb) st 8 rfl cw (.inl (.head _)) hP1
                | replace st := St.prs (b := c.pb) st 9 rfl cw (.inl (.head _)) hP1
                dsimp only [setNth] at st
                have hr3 := hsfr3.trans (hsfr2.trans hr1)
                refine vc_end ?_
                refine vq_then ?_
                refine vc_keep [(4, _), (7, _)] ⟨rfl, rfl, trivial⟩ ?_
                refine vc_seq ?_
                refine vc_region ?_
                refine vc_y rfl rfl ((by first | exact y_lda (vs := [_, _, _, _, _, _]) st 0 rfl Tryd.isAgg26 Tryd.sizeOf26 rfl rfl | exact y_lda (vs := [_, _, _, _, _, _]) st 1 rfl Tryd.isAgg26 Tryd.sizeOf26 rfl rfl | exact y_lda (vs := [_, _, _, _, _, _]) st 2 rfl Tryd.isAgg26 Tryd.sizeOf26 rfl rfl | exact y_lda (vs := [_, _, _, _, _, _]) st 3 rfl Tryd.isAgg26 Tryd.sizeOf26 rfl rfl | exact y_lda (vs := [_, _, _, _, _, _]) st 4 rfl Tryd.isAgg26 Tryd.sizeOf26 rfl rfl | exact y_lda (vs := [_, _, _, _, _, _]) st 5 rfl Tryd.isAgg26 Tryd.sizeOf26 rfl rfl | exact y_lda (vs := [_, _, _, _, _, _]) st 6 rfl Tryd.isAgg26 Tryd.sizeOf26 rfl rfl | exact y_lda (vs := [_, _, _, _, _, _]) st 7 rfl Tryd.isAgg26 Tryd.sizeOf26 rfl rfl | exact y_lda (vs := [_, _, _, _, _, _]) st 8 rfl Tryd.isAgg26 Tryd.sizeOf26 rfl rfl)) ?_
                first
                | refine vc_e (e_sts (vs := [_, _, _, _, _, _]) st 0 rfl rfl rfl rfl rfl Tryd.sizeOf26 rfl rfl (by first | (right; assumption) | (left; simp)) ?_)
                | refine vc_e (e_sts (vs := [_, _, _, _, _, _]) st 1 rfl rfl rfl rfl rfl Tryd.sizeOf26 rfl rfl (by first | (right; assumption) | (left; simp)) ?_)
                | refine vc_e (e_sts (vs := [_, _, _, _, _, _]) st 2 rfl rfl rfl rfl rfl Tryd.sizeOf26 rfl rfl (by first | (right; assumption) | (left; simp)) ?_)
                | refine vc_e (e_sts (vs := [_, _, _, _, _, _]) st 3 rfl rfl rfl rfl rfl Tryd.sizeOf26 rfl rfl (by first | (right; assumption) | (left; simp)) ?_)
                | refine vc_e (e_sts (vs := [_, _, _, _, _, _]) st 4 rfl rfl rfl rfl rfl Tryd.sizeOf26 rfl rfl (by first | (right; assumption) | (left; simp)) ?_)
                | refine vc_e (e_sts (vs := [_, _, _, _, _, _]) st 5 rfl rfl rfl rfl rfl Tryd.sizeOf26 rfl rfl (by first | (right; assumption) | (left; simp)) ?_)
                | refine vc_e (e_sts (vs := [_, _, _, _, _, _]) st 6 rfl rfl rfl rfl rfl Tryd.sizeOf26 rfl rfl (by first | (right; assumption) | (left; simp)) ?_)
                | refine vc_e (e_sts (vs := [_, _, _, _, _, _]) st 7 rfl rfl rfl rfl rfl Tryd.sizeOf26 rfl rfl (by first | (right; assumption) | (left; simp)) ?_)
                | refine vc_e (e_sts (vs := [_, _, _, _, _, _]) st 8 rfl rfl rfl rfl rfl Tryd.sizeOf26 rfl rfl (by first | (right; assumption) | (left; simp)) ?_)
                intro w st; dsimp only [setNth, wr] at st
                refine vc_end ?_
                refine vq_then ?_
                refine vc_keep [(4, _)] ⟨rfl, trivial⟩ ?_
                refine vc_ret ?_
                refine vq_then_ret ?_
                refine vq_ret1 st (.inl rfl) Tryd.results57 (by first | exact .cell 0 rfl rfl Tryd.isAgg26 Tryd.sizeOf26 | exact .cell 1 rfl rfl Tryd.isAgg26 Tryd.sizeOf26 | exact .cell 2 rfl rfl Tryd.isAgg26 Tryd.sizeOf26 | exact .cell 3 rfl rfl Tryd.isAgg26 Tryd.sizeOf26 | exact .cell 4 rfl rfl Tryd.isAgg26 Tryd.sizeOf26 | exact .cell 5 rfl rfl Tryd.isAgg26 Tryd.sizeOf26 | exact .cell 6 rfl rfl Tryd.isAgg26 Tryd.sizeOf26 | exact .cell 7 rfl rfl Tryd.isAgg26 Tryd.sizeOf26 | exact .cell 8 rfl rfl Tryd.isAgg26 Tryd.sizeOf26) ?_
                refine .inl ⟨_, rfl, ?_⟩
                exact ⟨x, r3, hs, (hsfr3.trans hsfr2).trans (List.tail_suffix _), by simp at hlnr3; omega, (by first | exact st.res (i := 0) rfl | exact st.res (i := 1) rfl | exact st.res (i := 2) rfl | exact st.res (i := 3) rfl | exact st.res (i := 4) rfl | exact st.res (i := 5) rfl | exact st.res (i := 6) rfl | exact st.res (i := 7) rfl | exact st.res (i := 8) rfl | exact st.res (i := 9) rfl), st.chg, ox, cx, Sx, rfl, (by first | exact (st.res (i := 2) rfl).1 | exact (st.res (i := 1) rfl).1 | exact (st.res (i := 3) rfl).1), hNSx⟩
              · intro hc60
                try simp only [decide_eq_true_eq, decide_eq_false_iff_not, Bool.not_eq_true', Bool.not_eq_false', Bool.not_eq_true, Bool.not_eq_false, Int.not_lt, Int.not_le, Nat.not_lt, Nat.not_le, Bool.not_true, Bool.not_false, Bool.true_eq_false, Bool.false_eq_true] at hc60
                have hs := unary_op (e := c.e) (m := m) hin.symm hc60
                have hne := inner_ne hin.symm
                have hlt := tail_lt hne
                have hr1 := suf_tail hr
                refine vc_code_skip ?_
                refine vq_then ?_
                refine vc_keep [(0, _), (1, _), (4, _), (5, _)] ⟨rfl, rfl, rfl, rfl, trivial⟩ ?_
                refine vc_seq ?_
                refine vc_region ?_
                refine vc_y rfl rfl (y_as rfl) ?_
                refine vc_end ?_
                refine vq_then ?_
                refine vc_keep [(0, _), (1, _), (4, _), (5, _), (8, _)] ⟨rfl, rfl, rfl, rfl, rfl, trivial⟩ ?_
                refine vc_seq ?_
                refine vc_seq ?_
                refine vc_region ?_
                refine vc_y rfl rfl ((by first | exact y_faz (k := 1) rfl Tryd.underlying53 rfl rfl Tryd.sizeOf9 rfl | exact y_fa (k := 1) rfl Tryd.underlying53 rfl rfl Tryd.sizeOf9 rfl)) ?_
                refine vc_y rfl rfl ((by first | exact y_ld st 0 rfl Tryd.isAgg9 rfl rfl | exact y_ld st 1 rfl Tryd.isAgg9 rfl rfl | exact y_ld st 2 rfl Tryd.isAgg9 rfl rfl | exact y_ld st 3 rfl Tryd.isAgg9 rfl rfl | exact y_ld st 4 rfl Tryd.isAgg9 rfl rfl | exact y_ld st 5 rfl Tryd.isAgg9 rfl rfl | exact y_ld st 6 rfl Tryd.isAgg9 rfl rfl | exact y_ld st 7 rfl Tryd.isAgg9 rfl rfl | exact y_ld st 8 rfl Tryd.isAgg9 rfl rfl)) ?_
                refine vc_y rfl rfl (y_eqs rfl rfl) ?_
                refine vc_end ?_
                refine vq_then ?_
                refine vc_keep [(0, _), (1, _), (4, _), (5, _), (8, _), (71, _)] ⟨rfl, rfl, rfl, rfl, rfl, rfl, trivial⟩ ?_
                refine vc_ifs rfl ?_ ?_
                · intro hc71
                  try simp only [decide_eq_true_eq, decide_eq_false_iff_not, Bool.not_eq_true', Bool.not_eq_false', Bool.not_eq_true, Bool.not_eq_false, Int.not_lt, Int.not_le, Nat.not_lt, Nat.not_le, Bool.not_true, Bool.not_false, Bool.true_eq_false, Bool.false_eq_true] at hc71
                  rw [if_pos hc71] at hs
                  refine vc_region ?_
                  refine vc_y rfl rfl (y_as rfl) ?_
                  refine vc_end ?_
                  refine vq_then ?_
                  refine vc_keep [(0, _), (1, _), (4, _), (5, _), (8, _)] ⟨rfl, rfl, rfl, rfl, rfl, trivial⟩ ?_
                  refine vc_seq ?_
                  refine vc_draw Tryd.mixed [(0, true), (1, true), (2, true), (3, true), (6, true), (7, true), (4, false), (5, false), (8, true), (9, false)] (fun w => St _ _ [.blk b5 (.cells (tkL (here r)).toArray 53 (0, 0))] w) (by first | exact st | exact st.drop (by repeat (first | exact List.Sublist.slnil | apply List.Sublist.cons_cons | apply List.Sublist.cons))) (by kernel_rfl) (by repeat (first | exact okQ_body | refine okQ_then ?_ | refine okQ_block ?_)) rfl (by kernel_rfl) ?_
                  intro w cd; replace st := st.call0 cd; clear cd
                  have hS : St _ _ [.blk b5 (.cells (tkL (here r)).toArray 53 (0, 0))] w := (by first | exact st | exact st.drop (by repeat (first | exact List.Sublist.slnil | apply List.Sublist.cons_cons | apply List.Sublist.cons)))
                  refine vp_take rfl rfl rfl hS (fun w st => y_mv rfl) ?_
                  refine vp_take rfl rfl rfl hS (fun w st => y_mv rfl) ?_
                  refine vp_take rfl rfl rfl hS (fun w st => y_mv rfl) ?_
                  refine vp_take rfl rfl rfl hS (fun w st => y_add rfl rfl (by omega : _ = ((d + 1 : Nat) : Int)) (by omega) (by omega)) ?_
                  refine vp_take rfl rfl rfl hS (fun w st => (by first | exact y_faz (k := 3) rfl Tryd.underlying53 rfl rfl Tryd.sizeOf3 rfl | exact y_fa (k := 3) rfl Tryd.underlying53 rfl rfl Tryd.sizeOf3 rfl)) ?_
                  refine vp_take rfl rfl rfl hS (fun w st => (by first | exact y_ld st 0 rfl Tryd.isAgg3 rfl rfl | exact y_ld st 1 rfl Tryd.isAgg3 rfl rfl | exact y_ld st 2 rfl Tryd.isAgg3 rfl rfl | exact y_ld st 3 rfl Tryd.isAgg3 rfl rfl | exact y_ld st 4 rfl Tryd.isAgg3 rfl rfl | exact y_ld st 5 rfl Tryd.isAgg3 rfl rfl | exact y_ld st 6 rfl Tryd.isAgg3 rfl rfl | exact y_ld st 7 rfl Tryd.isAgg3 rfl rfl | exact y_ld st 8 rfl Tryd.isAgg3 rfl rfl)) ?_
                  refine vp_do rfl (e_callp [_, _] rfl rfl Tryd.call57 rfl (hU m rfl r.tail hr1 _ (hC.k1 st.chg) (by first | exact st.res (i := 0) rfl | exact st.res (i := 1) rfl | exact st.res (i := 2) rfl | exact st.res (i := 3) rfl | exact st.res (i := 4) rfl | exact st.res (i := 5) rfl | exact st.res (i := 6) rfl | exact st.res (i := 7) rfl | exact st.res (i := 8) rfl | exact st.res (i := 9) rfl)) (by rintro _ w' ⟨f, hf, rfl, ch⟩ a ha; exact And.intro ha (Or.inr ⟨_, rfl, f, by rw [hs, hf], rfl, st.chg.trans ch⟩)) ?_)
                  rintro _ w ⟨x, r2, hx, hsfr2, hlnr2, hP1, cw, ox, cx, Sx, rfl, hQ, hN⟩
                  have hNSx := hN.le st.chg.size
                  first
                  | replace st := St.prsT (b := c.pb) st 0 rfl cw (.inl (.head _)) hP1 (holds_ex hQ) hN.2
                  | replace st := St.prsT (b := c.pb) st 1 rfl cw (.inl (.head _)) hP1 (holds_ex hQ) hN.2
                  | replace st := St.prsT (b := c.pb) st 2 rfl cw (.inl (.head _)) hP1 (holds_ex hQ) hN.2
                  | replace st := St.prsT (b := c.pb) st 3 rfl cw (.inl (.head _)) hP1 (holds_ex hQ) hN.2
                  | replace st := St.prsT (b := c.pb) st 4 rfl cw (.inl (.head _)) hP1 (holds_ex hQ) hN.2
                  | replace st := St.prsT (b := c.pb) st 5 rfl cw (.inl (.head _)) hP1 (holds_ex hQ) hN.2
                  | replace st := St.prsT (b := c.pb) st 6 rfl cw (.inl (.head _)) hP1 (holds_ex hQ) hN.2
                  | replace st := St.prsT (b := c.pb) st 7 rfl cw (.inl (.head _)) hP1 (holds_ex hQ) hN.2
                  | replace st := St.prsT (b := c.pb) st 8 rfl cw (.inl (.head _)) hP1 (holds_ex hQ) hN.2
                  | replace st := St.prsT (b := c.pb) st 9 rfl cw (.inl (.head _)) hP1 (holds_ex hQ) hN.2
                  dsimp only [setNth] at st
                  rw [hx] at hs; dsimp only at hs
                  refine vp_next (by first | exact st | exact st.drop (by repeat (first | exact List.Sublist.slnil | apply List.Sublist.cons_cons | apply List.Sublist.cons))) ?_; intro hS
                  refine vp_do rfl (e_bs1 (l := [_, _, _, _, _, _]) st rfl rfl rfl rfl Tryd.underlying24 Tryd.sizeOf26 rfl rfl rfl Tryd.zeroValue26 ?_)
                  intro b77 w hb77 st
                  refine vp_next (by first | exact st | exact st.drop (by repeat (first | exact List.Sublist.slnil | apply List.Sublist.cons_cons | apply List.Sublist.cons))) ?_; intro hS
                  refine vp_take rfl rfl rfl hS (fun w st => y_bld (.agg #[_, _, _, _, _, _]) [(0, _), (1, _), (4, _), (5, _)] rfl (fun w => by simp [Instr.build, go_sem] <;> repeat' constructor)) ?_
                  first
                  | refine vp_do rfl (e_sts (vs := [_, _, _, _, _, _]) st 0 rfl rfl rfl rfl rfl Tryd.sizeOf26 rfl rfl (by first | (right; assumption) | (left; simp)) ?_)
                  | refine vp_do rfl (e_sts (vs := [_, _, _, _, _, _]) st 1 rfl rfl rfl rfl rfl Tryd.sizeOf26 rfl rfl (by first | (right; assumption) | (left; simp)) ?_)
                  | refine vp_do rfl (e_sts (vs := [_, _, _, _, _, _]) st 2 rfl rfl rfl rfl rfl Tryd.sizeOf26 rfl rfl (by first | (right; assumption) | (left; simp)) ?_)
                  | refine vp_do rfl (e_sts (vs := [_, _, _, _, _, _]) st 3 rfl rfl rfl rfl rfl Tryd.sizeOf26 rfl rfl (by first | (right; assumption) | (left; simp)) ?_)
                  | refine vp_do rfl (e_sts (vs := [_, _, _, _, _, _]) st 4 rfl rfl rfl rfl rfl Tryd.sizeOf26 rfl rfl (by first | (right; assumption) | (left; simp)) ?_)
                  | refine vp_do rfl (e_sts (vs := [_, _, _, _, _, _]) st 5 rfl rfl rfl rfl rfl Tryd.sizeOf26 rfl rfl (by first | (right; assumption) | (left; simp)) ?_)
                  | refine vp_do rfl (e_sts (vs := [_, _, _, _, _, _]) st 6 rfl rfl rfl rfl rfl Tryd.sizeOf26 rfl rfl (by first | (right; assumption) | (left; simp)) ?_)
                  | refine vp_do rfl (e_sts (vs := [_, _, _, _, _, _]) st 7 rfl rfl rfl rfl rfl Tryd.sizeOf26 rfl rfl (by first | (right; assumption) | (left; simp)) ?_)
                  | refine vp_do rfl (e_sts (vs := [_, _, _, _, _, _]) st 8 rfl rfl rfl rfl rfl Tryd.sizeOf26 rfl rfl (by first | (right; assumption) | (left; simp)) ?_)
                  intro w st; dsimp only [setNth, wr] at st
                  refine vp_next (by first | exact st | exact st.drop (by repeat (first | exact List.Sublist.slnil | apply List.Sublist.cons_cons | apply List.Sublist.cons))) ?_; intro hS
                  refine vp_end ?_
                  refine vq_then ?_
                  refine vc_keep [(4, _)] ⟨rfl, trivial⟩ ?_
                  refine vc_ret ?_
                  refine vq_ret1 st (.inl rfl) Tryd.results57 (by first | exact .cell 0 rfl rfl Tryd.isAgg26 Tryd.sizeOf26 | exact .cell 1 rfl rfl Tryd.isAgg26 Tryd.sizeOf26 | exact .cell 2 rfl rfl Tryd.isAgg26 Tryd.sizeOf26 | exact .cell 3 rfl rfl Tryd.isAgg26 Tryd.sizeOf26 | exact .cell 4 rfl rfl Tryd.isAgg26 Tryd.sizeOf26 | exact .cell 5 rfl rfl Tryd.isAgg26 Tryd.sizeOf26 | exact .cell 6 rfl rfl Tryd.isAgg26 Tryd.sizeOf26 | exact .cell 7 rfl rfl Tryd.isAgg26 Tryd.sizeOf26 | exact .cell 8 rfl rfl Tryd.isAgg26 Tryd.sizeOf26) ?_
                  refine .inl ⟨_, rfl, ?_⟩
                  exact ⟨_, _, hs, hsfr2.trans (List.tail_suffix _), by omega, (by first | exact st.res (i := 0) rfl | exact st.res (i := 1) rfl | exact st.res (i := 2) rfl | exact st.res (i := 3) rfl | exact st.res (i := 4) rfl | exact st.res (i := 5) rfl | exact st.res (i := 6) rfl | exact st.res (i := 7) rfl | exact st.res (i := 8) rfl | exact st.res (i := 9) rfl), st.chg, some ⟨b77, 0, none⟩, 1, b77 :: Sx, rfl, ex_one (st.res (i := 0) rfl) (st.res (i := 1) rfl).1, Nw.app (S := [b77]) ⟨by simp, by simpa using hb77⟩ hNSx (fun b hb hb' => st.ne (i := 0) (j := 1) (by decide) rfl rfl b hb hb')⟩
                · intro hc71
                  try simp only [decide_eq_true_eq, decide_eq_false_iff_not, Bool.not_eq_true', Bool.not_eq_false', Bool.not_eq_true, Bool.not_eq_false, Int.not_lt, Int.not_le, Nat.not_lt, Nat.not_le, Bool.not_true, Bool.not_false, Bool.true_eq_false, Bool.false_eq_true] at hc71
                  rw [if_neg hc71] at hs
                  refine vc_code_skip ?_
                  refine vq_then ?_
                  refine vc_keep [(0, _), (1, _), (4, _), (5, _), (8, _)] ⟨rfl, rfl, rfl, rfl, rfl, trivial⟩ ?_
                  refine vc_seq ?_
                  refine vc_draw Tryd.mixed [(0, true), (1, true), (2, true), (3, true), (6, true), (7, true), (4, false), (5, false), (8, true), (9, false)] (fun w => St _ _ [.blk b5 (.cells (tkL (here r)).toArray 53 (0, 0))] w) (by first | exact st | exact st.drop (by repeat (first | exact List.Sublist.slnil | apply List.Sublist.cons_cons | apply List.Sublist.cons))) (by kernel_rfl) (by repeat (first | exact okQ_body | refine okQ_then ?_ | refine okQ_block ?_)) rfl (by kernel_rfl) ?_
                  intro w cd; replace st := st.call0 cd; clear cd
                  have hS : St _ _ [.blk b5 (.cells (tkL (here r)).toArray 53 (0, 0))] w := (by first | exact st | exact st.drop (by repeat (first | exact List.Sublist.slnil | apply List.Sublist.cons_cons | apply List.Sublist.cons)))
                  refine vp_take rfl rfl rfl hS (fun w st => y_mv rfl) ?_
                  refine vp_take rfl rfl rfl hS (fun w st => y_mv rfl) ?_
                  refine vp_take rfl rfl rfl hS (fun w st => y_mv rfl) ?_
                  refine vp_take rfl rfl rfl hS (fun w st => y_add rfl rfl (by omega : _ = ((d + 1 : Nat) : Int)) (by omega) (by omega)) ?_
                  refine vp_take rfl rfl rfl hS (fun w st => (by first | exact y_faz (k := 3) rfl Tryd.underlying53 rfl rfl Tryd.sizeOf3 rfl | exact y_fa (k := 3) rfl Tryd.underlying53 rfl rfl Tryd.sizeOf3 rfl)) ?_
                  refine vp_take rfl rfl rfl hS (fun w st => (by first | exact y_ld st 0 rfl Tryd.isAgg3 rfl rfl | exact y_ld st 1 rfl Tryd.isAgg3 rfl rfl | exact y_ld st 2 rfl Tryd.isAgg3 rfl rfl | exact y_ld st 3 rfl Tryd.isAgg3 rfl rfl | exact y_ld st 4 rfl Tryd.isAgg3 rfl rfl | exact y_ld st 5 rfl Tryd.isAgg3 rfl rfl | exact y_ld st 6 rfl Tryd.isAgg3 rfl rfl | exact y_ld st 7 rfl Tryd.isAgg3 rfl rfl | exact y_ld st 8 rfl Tryd.isAgg3 rfl rfl)) ?_
                  refine vp_do rfl (e_callp [_, _] rfl rfl Tryd.call57 rfl (hU m rfl r.tail hr1 _ (hC.k1 st.chg) (by first | exact st.res (i := 0) rfl | exact st.res (i := 1) rfl | exact st.res (i := 2) rfl | exact st.res (i := 3) rfl | exact st.res (i := 4) rfl | exact st.res (i := 5) rfl | exact st.res (i := 6) rfl | exact st.res (i := 7) rfl | exact st.res (i := 8) rfl | exact st.res (i := 9) rfl)) (by rintro _ w' ⟨f, hf, rfl, ch⟩ a ha; exact And.intro ha (Or.inr ⟨_, rfl, f, by rw [hs, hf], rfl, st.chg.trans ch⟩)) ?_)
                  rintro _ w ⟨x, r2, hx, hsfr2, hlnr2, hP1, cw, ox, cx, Sx, rfl, hQ, hN⟩
                  have hNSx := hN.le st.chg.size
                  first
                  | replace st := St.prsT (b := c.pb) st 0 rfl cw (.inl (.head _)) hP1 (holds_ex hQ) hN.2
                  | replace st := St.prsT (b := c.pb) st 1 rfl cw (.inl (.head _)) hP1 (holds_ex hQ) hN.2
                  | replace st := St.prsT (b := c.pb) st 2 rfl cw (.inl (.head _)) hP1 (holds_ex hQ) hN.2
                  | replace st := St.prsT (b := c.pb) st 3 rfl cw (.inl (.head _)) hP1 (holds_ex hQ) hN.2
                  | replace st := St.prsT (b := c.pb) st 4 rfl cw (.inl (.head _)) hP1 (holds_ex hQ) hN.2
                  | replace st := St.prsT (b := c.pb) st 5 rfl cw (.inl (.head _)) hP1 (holds_ex hQ) hN.2
                  | replace st := St.prsT (b := c.pb) st 6 rfl cw (.inl (.head _)) hP1 (holds_ex hQ) hN.2
                  | replace st := St.prsT (b := c.pb) st 7 rfl cw (.inl (.head _)) hP1 (holds_ex hQ) hN.2
                  | replace st := St.prsT (b := c.pb) st 8 rfl cw (.inl (.head _)) hP1 (holds_ex hQ) hN.2
                  | replace st := St.prsT (b := c.pb) st 9 rfl cw (.inl (.head _)) hP1 (holds_ex hQ) hN.2
                  dsimp only [setNth] at st
                  rw [hx] at hs; dsimp only at hs
                  refine vp_next (by first | exact st | exact st.drop (by repeat (first | exact List.Sublist.slnil | apply List.Sublist.cons_cons | apply List.Sublist.cons))) ?_; intro hS
                  refine vp_do rfl (e_bs1 (l := [_, _, _, _, _, _]) st rfl rfl rfl rfl Tryd.underlying24 Tryd.sizeOf26 rfl rfl rfl Tryd.zeroValue26 ?_)
                  intro b77 w hb77 st
                  refine vp_next (by first | exact st | exact st.drop (by repeat (first | exact List.Sublist.slnil | apply List.Sublist.cons_cons | apply List.Sublist.cons))) ?_; intro hS
                  refine vp_take rfl rfl rfl hS (fun w st => y_bld (.agg #[_, _, _, _, _, _]) [(0, _), (1, _), (4, _), (5, _)] rfl (fun w => by simp [Instr.build, go_sem] <;> repeat' constructor)) ?_
                  first
                  | refine vp_do rfl (e_sts (vs := [_, _, _, _, _, _]) st 0 rfl rfl rfl rfl rfl Tryd.sizeOf26 rfl rfl (by first | (right; assumption) | (left; simp)) ?_)
                  | refine vp_do rfl (e_sts (vs := [_, _, _, _, _, _]) st 1 rfl rfl rfl rfl rfl Tryd.sizeOf26 rfl rfl (by first | (right; assumption) | (left; simp)) ?_)
                  | refine vp_do rfl (e_sts (vs := [_, _, _, _, _, _]) st 2 rfl rfl rfl rfl rfl Tryd.sizeOf26 rfl rfl (by first | (right; assumption) | (left; simp)) ?_)
                  | refine vp_do rfl (e_sts (vs := [_, _, _, _, _, _]) st 3 rfl rfl rfl rfl rfl Tryd.sizeOf26 rfl rfl (by first | (right; assumption) | (left; simp)) ?_)
                  | refine vp_do rfl (e_sts (vs := [_, _, _, _, _, _]) st 4 rfl rfl rfl rfl rfl Tryd.sizeOf26 rfl rfl (by first | (right; assumption) | (left; simp)) ?_)
                  | refine vp_do rfl (e_sts (vs := [_, _, _, _, _, _]) st 5 rfl rfl rfl rfl rfl Tryd.sizeOf26 rfl rfl (by first | (right; assumption) | (left; simp)) ?_)
                  | refine vp_do rfl (e_sts (vs := [_, _, _, _, _, _]) st 6 rfl rfl rfl rfl rfl Tryd.sizeOf26 rfl rfl (by first | (right; assumption) | (left; simp)) ?_)
                  | refine vp_do rfl (e_sts (vs := [_, _, _, _, _, _]) st 7 rfl rfl rfl rfl rfl Tryd.sizeOf26 rfl rfl (by first | (right; assumption) | (left; simp)) ?_)
                  | refine vp_do rfl (e_sts (vs := [_, _, _, _, _, _]) st 8 rfl rfl rfl rfl rfl Tryd.sizeOf26 rfl rfl (by first | (right; assumption) | (left; simp)) ?_)
                  intro w st; dsimp only [setNth, wr] at st
                  refine vp_next (by first | exact st | exact st.drop (by repeat (first | exact List.Sublist.slnil | apply List.Sublist.cons_cons | apply List.Sublist.cons))) ?_; intro hS
                  refine vp_end ?_
                  refine vq_then ?_
                  refine vc_keep [(4, _)] ⟨rfl, trivial⟩ ?_
                  refine vc_ret ?_
                  refine vq_ret1 st (.inl rfl) Tryd.results57 (by first | exact .cell 0 rfl rfl Tryd.isAgg26 Tryd.sizeOf26 | exact .cell 1 rfl rfl Tryd.isAgg26 Tryd.sizeOf26 | exact .cell 2 rfl rfl Tryd.isAgg26 Tryd.sizeOf26 | exact .cell 3 rfl rfl Tryd.isAgg26 Tryd.sizeOf26 | exact .cell 4 rfl rfl Tryd.isAgg26 Tryd.sizeOf26 | exact .cell 5 rfl rfl Tryd.isAgg26 Tryd.sizeOf26 | exact .cell 6 rfl rfl Tryd.isAgg26 Tryd.sizeOf26 | exact .cell 7 rfl rfl Tryd.isAgg26 Tryd.sizeOf26 | exact .cell 8 rfl rfl Tryd.isAgg26 Tryd.sizeOf26) ?_
                  refine .inl ⟨_, rfl, ?_⟩
                  exact ⟨_, _, hs, hsfr2.trans (List.tail_suffix _), by omega, (by first | exact st.res (i := 0) rfl | exact st.res (i := 1) rfl | exact st.res (i := 2) rfl | exact st.res (i := 3) rfl | exact st.res (i := 4) rfl | exact st.res (i := 5) rfl | exact st.res (i := 6) rfl | exact st.res (i := 7) rfl | exact st.res (i := 8) rfl | exact st.res (i := 9) rfl), st.chg, some ⟨b77, 0, none⟩, 1, b77 :: Sx, rfl, ex_one (st.res (i := 0) rfl) (st.res (i := 1) rfl).1, Nw.app (S := [b77]) ⟨by simp, by simpa using hb77⟩ hNSx (fun b hb hb' => st.ne (i := 0) (j := 1) (by decide) rfl rfl b hb hb')⟩
    · intro hg23
      try simp only [decide_eq_true_eq, decide_eq_false_iff_not, Bool.not_eq_true', Bool.not_eq_false', Bool.not_eq_true, Bool.not_eq_false, Int.not_lt, Int.not_le, Nat.not_lt, Nat.not_le, Bool.not_true, Bool.not_false, Bool.true_eq_false, Bool.false_eq_true] at hg23
      subst hg23
      refine vc_e (e_skip rfl rfl ?_)
      refine vc_e (e_skip rfl rfl ?_)
      refine vc_y rfl rfl (y_pickf rfl rfl) ?_
      refine vc_y rfl rfl (y_as rfl) ?_
      refine vc_end ?_
      refine vq_then ?_
      refine vc_keep [(0, _), (1, _), (4, _), (5, _), (6, _), (21, _)] ⟨rfl, rfl, rfl, rfl, rfl, rfl, trivial⟩ ?_
      refine vc_iff rfl ?_
      refine vc_seq ?_
      refine vc_region ?_
      refine vc_y rfl rfl (y_fa0 rfl Tryd.underlying53 rfl rfl Tryd.sizeOf51 rfl) ?_
      refine vc_y rfl rfl ((by first | exact y_ld st 0 rfl Tryd.isAgg51 rfl rfl | exact y_ld st 1 rfl Tryd.isAgg51 rfl rfl | exact y_ld st 2 rfl Tryd.isAgg51 rfl rfl | exact y_ld st 3 rfl Tryd.isAgg51 rfl rfl | exact y_ld st 4 rfl Tryd.isAgg51 rfl rfl | exact y_ld st 5 rfl Tryd.isAgg51 rfl rfl | exact y_ld st 6 rfl Tryd.isAgg51 rfl rfl | exact y_ld st 7 rfl Tryd.isAgg51 rfl rfl | exact y_ld st 8 rfl Tryd.isAgg51 rfl rfl)) ?_
      refine vc_y rfl rfl (y_eqi rfl rfl) ?_
      refine vc_y rfl rfl (y_as rfl) ?_
      refine vc_end ?_
      refine vq_then ?_
      refine vc_keep [(0, _), (1, _), (4, _), (5, _), (6, _), (29, _)] ⟨rfl, rfl, rfl, rfl, rfl, rfl, trivial⟩ ?_
      refine vc_ifs rfl ?_ ?_
      · intro hc29
        try simp only [decide_eq_true_eq, decide_eq_false_iff_not, Bool.not_eq_true', Bool.not_eq_false', Bool.not_eq_true, Bool.not_eq_false, Int.not_lt, Int.not_le, Nat.not_lt, Nat.not_le, Bool.not_true, Bool.not_false, Bool.true_eq_false, Bool.false_eq_true] at hc29
        have hk : (here r).kind = 3 := by omega
        have hne := kind_ne hk (by decide)
        have hs := (unary_out (e := c.e) (m := m) hin.symm).trans (by unfold leafP; rw [if_pos hk])
        refine vc_seq ?_
        refine vc_region ?_
        refine vc_y rfl rfl (y_mv rfl) ?_
        refine vc_e (e_call [_] rfl rfl Tryd.call60 rfl (pnext_any c r hr hne _ (hC.k1 st.chg) (by first | exact st.res (i := 0) rfl | exact st.res (i := 1) rfl | exact st.res (i := 2) rfl | exact st.res (i := 3) rfl | exact st.res (i := 4) rfl | exact st.res (i := 5) rfl | exact st.res (i := 6) rfl | exact st.res (i := 7) rfl | exact st.res (i := 8) rfl | exact st.res (i := 9) rfl)) ?_)
        rintro _ w ⟨rfl, hP1, cw⟩
        first
        | replace st := St.prs (b := c.pb) st 0 rfl cw (.inl (.head _)) hP1
        | replace st := St.prs (b := c.pb) st 1 rfl cw (.inl (.head _)) hP1
        | replace st := St.prs (b := c.pb) st 2 rfl cw (.inl (.head _)) hP1
        | replace st := St.prs (b := c.pb) st 3 rfl cw (.inl (.head _)) hP1
        | replace st := St.prs (b := c.pb) st 4 rfl cw (.inl (.head _)) hP1
        | replace st := St.prs (b := c.pb) st 5 rfl cw (.inl (.head _)) hP1
        | replace st := St.prs (b := c.pb) st 6 rfl cw (.inl (.head _)) hP1
        | replace st := St.prs (b := c.pb) st 7 rfl cw (.inl (.head _)) hP1
        | replace st := St.prs (b := c.pb) st 8 rfl cw (.inl (.head _)) hP1
        | replace st := St.prs (b := c.pb) st 9 rfl cw (.inl (.head _)) hP1
        dsimp only [setNth] at st
        refine vc_end ?_
        refine vq_then ?_
        refine vc_keep [(4, _), (5, _)] ⟨rfl, rfl, trivial⟩ ?_
        refine vc_seq ?_
        refine vc_region ?_
        refine vc_y rfl rfl ((by first | exact y_faz (k := 2) rfl Tryd.underlying53 rfl rfl Tryd.sizeOf2 rfl | exact y_fa (k := 2) rfl Tryd.underlying53 rfl rfl Tryd.sizeOf2 rfl)) ?_
        refine vc_y rfl rfl ((by first | exact y_ld st 0 rfl Tryd.isAgg2 rfl rfl | exact y_ld st 1 rfl Tryd.isAgg2 rfl rfl | exact y_ld st 2 rfl Tryd.isAgg2 rfl rfl | exact y_ld st 3 rfl Tryd.isAgg2 rfl rfl | exact y_ld st 4 rfl Tryd.isAgg2 rfl rfl | exact y_ld st 5 rfl Tryd.isAgg2 rfl rfl | exact y_ld st 6 rfl Tryd.isAgg2 rfl rfl | exact y_ld st 7 rfl Tryd.isAgg2 rfl rfl | exact y_ld st 8 rfl Tryd.isAgg2 rfl rfl)) ?_
        refine vc_y rfl rfl ((by first | exact y_faz (k := 3) rfl Tryd.underlying53 rfl rfl Tryd.sizeOf3 rfl | exact y_fa (k := 3) rfl Tryd.underlying53 rfl rfl Tryd.sizeOf3 rfl)) ?_
        refine vc_y rfl rfl ((by first | exact y_ld st 0 rfl Tryd.isAgg3 rfl rfl | exact y_ld st 1 rfl Tryd.isAgg3 rfl rfl | exact y_ld st 2 rfl Tryd.isAgg3 rfl rfl | exact y_ld st 3 rfl Tryd.isAgg3 rfl rfl | exact y_ld st 4 rfl Tryd.isAgg3 rfl rfl | exact y_ld st 5 rfl Tryd.isAgg3 rfl rfl | exact y_ld st 6 rfl Tryd.isAgg3 rfl rfl | exact y_ld st 7 rfl Tryd.isAgg3 rfl rfl | exact y_ld st 8 rfl Tryd.isAgg3 rfl rfl)) ?_
        refine vc_y rfl rfl (y_bld (.agg #[_, _, _, _, _, _]) [(0, _), (2, _), (5, _)] rfl (fun w => by simp [Instr.build, go_sem] <;> repeat' constructor)) ?_
        first
        | refine vc_e (e_sts (vs := [_, _, _, _, _, _]) st 0 rfl rfl rfl rfl rfl Tryd.sizeOf26 rfl rfl (by first | (right; assumption) | (left; simp)) ?_)
        | refine vc_e (e_sts (vs := [_, _, _, _, _, _]) st 1 rfl rfl rfl rfl rfl Tryd.sizeOf26 rfl rfl (by first | (right; assumption) | (left; simp)) ?_)
        | refine vc_e (e_sts (vs := [_, _, _, _, _, _]) st 2 rfl rfl rfl rfl rfl Tryd.sizeOf26 rfl rfl (by first | (right; assumption) | (left; simp)) ?_)
        | refine vc_e (e_sts (vs := [_, _, _, _, _, _]) st 3 rfl rfl rfl rfl rfl Tryd.sizeOf26 rfl rfl (by first | (right; assumption) | (left; simp)) ?_)
        | refine vc_e (e_sts (vs := [_, _, _, _, _, _]) st 4 rfl rfl rfl rfl rfl Tryd.sizeOf26 rfl rfl (by first | (right; assumption) | (left; simp)) ?_)
        | refine vc_e (e_sts (vs := [_, _, _, _, _, _]) st 5 rfl rfl rfl rfl rfl Tryd.sizeOf26 rfl rfl (by first | (right; assumption) | (left; simp)) ?_)
        | refine vc_e (e_sts (vs := [_, _, _, _, _, _]) st 6 rfl rfl rfl rfl rfl Tryd.sizeOf26 rfl rfl (by first | (right; assumption) | (left; simp)) ?_)
        | refine vc_e (e_sts (vs := [_, _, _, _, _, _]) st 7 rfl rfl rfl rfl rfl Tryd.sizeOf26 rfl rfl (by first | (right; assumption) | (left; simp)) ?_)
        | refine vc_e (e_sts (vs := [_, _, _, _, _, _]) st 8 rfl rfl rfl rfl rfl Tryd.sizeOf26 rfl rfl (by first | (right; assumption) | (left; simp)) ?_)
        intro w st; dsimp only [setNth, wr] at st
        refine vc_end ?_
        refine vq_then ?_
        refine vc_keep [(4, _)] ⟨rfl, trivial⟩ ?_
        refine vc_ret ?_
        refine vq_block_ret ?_
        refine vq_then_ret ?_
        refine vq_ret1 st (.inl rfl) Tryd.results57 (by first | exact .cell 0 rfl rfl Tryd.isAgg26 Tryd.sizeOf26 | exact .cell 1 rfl rfl Tryd.isAgg26 Tryd.sizeOf26 | exact .cell 2 rfl rfl Tryd.isAgg26 Tryd.sizeOf26 | exact .cell 3 rfl rfl Tryd.isAgg26 Tryd.sizeOf26 | exact .cell 4 rfl rfl Tryd.isAgg26 Tryd.sizeOf26 | exact .cell 5 rfl rfl Tryd.isAgg26 Tryd.sizeOf26 | exact .cell 6 rfl rfl Tryd.isAgg26 Tryd.sizeOf26 | exact .cell 7 rfl rfl Tryd.isAgg26 Tryd.sizeOf26 | exact .cell 8 rfl rfl Tryd.isAgg26 Tryd.sizeOf26) ?_
        refine .inl ⟨_, rfl, ?_⟩
        exact ⟨_, _, hs, List.tail_suffix _, tail_lt hne, (by first | exact st.res (i := 0) rfl | exact st.res (i := 1) rfl | exact st.res (i := 2) rfl | exact st.res (i := 3) rfl | exact st.res (i := 4) rfl | exact st.res (i := 5) rfl | exact st.res (i := 6) rfl | exact st.res (i := 7) rfl | exact st.res (i := 8) rfl | exact st.res (i := 9) rfl), st.chg, none, 0, [], rfl, ⟨[], [], World.ownsRow_nil _ _ _ _, rfl, rfl, rfl⟩, Nw.nil⟩
      · intro hc29
        try simp only [decide_eq_true_eq, decide_eq_false_iff_not, Bool.not_eq_true', Bool.not_eq_false', Bool.not_eq_true, Bool.not_eq_false, Int.not_lt, Int.not_le, Nat.not_lt, Nat.not_le, Bool.not_true, Bool.not_false, Bool.true_eq_false, Bool.false_eq_true] at hc29
        refine vc_seq ?_
        refine vc_region ?_
        refine vc_y rfl rfl (y_fa0 rfl Tryd.underlying53 rfl rfl Tryd.sizeOf51 rfl) ?_
        refine vc_y rfl rfl ((by first | exact y_ld st 0 rfl Tryd.isAgg51 rfl rfl | exact y_ld st 1 rfl Tryd.isAgg51 rfl rfl | exact y_ld st 2 rfl Tryd.isAgg51 rfl rfl | exact y_ld st 3 rfl Tryd.isAgg51 rfl rfl | exact y_ld st 4 rfl Tryd.isAgg51 rfl rfl | exact y_ld st 5 rfl Tryd.isAgg51 rfl rfl | exact y_ld st 6 rfl Tryd.isAgg51 rfl rfl | exact y_ld st 7 rfl Tryd.isAgg51 rfl rfl | exact y_ld st 8 rfl Tryd.isAgg51 rfl rfl)) ?_
        refine vc_y rfl rfl (y_eqi rfl rfl) ?_
        refine vc_y rfl rfl (y_as rfl) ?_
        refine vc_end ?_
        refine vq_then ?_
        refine vc_keep [(0, _), (1, _), (4, _), (5, _), (6, _), (40, _)] ⟨rfl, rfl, rfl, rfl, rfl, rfl, trivial⟩ ?_
        refine vc_ifs rfl ?_ ?_
        · intro hc40
          try simp only [decide_eq_true_eq, decide_eq_false_iff_not, Bool.not_eq_true', Bool.not_eq_false', Bool.not_eq_true, Bool.not_eq_false, Int.not_lt, Int.not_le, Nat.not_lt, Nat.not_le, Bool.not_true, Bool.not_false, Bool.true_eq_false, Bool.false_eq_true] at hc40
          have hk : (here r).kind = 1 := by omega
          have hne := kind_ne hk (by decide)
          have hs := (unary_out (e := c.e) (m := m) hin.symm).trans (by unfold leafP; rw [if_neg (by omega), if_pos hk])
          refine vc_seq ?_
          refine vc_region ?_
          refine vc_y rfl rfl (y_mv rfl) ?_
          refine vc_e (e_call [_] rfl rfl Tryd.call60 rfl (pnext_any c r hr hne _ (hC.k1 st.chg) (by first | exact st.res (i := 0) rfl | exact st.res (i := 1) rfl | exact st.res (i := 2) rfl | exact st.res (i := 3) rfl | exact st.res (i := 4) rfl | exact st.res (i := 5) rfl | exact st.res (i := 6) rfl | exact st.res (i := 7) rfl | exact st.res (i := 8) rfl | exact st.res (i := 9) rfl)) ?_)
          rintro _ w ⟨rfl, hP1, cw⟩
          first
          | replace st := St.prs (b := c.pb) st 0 rfl cw (.inl (.head _)) hP1
          | replace st := St.prs (b := c.pb) st 1 rfl cw (.inl (.head _)) hP1
          | replace st := St.prs (b := c.pb) st 2 rfl cw (.inl (.head _)) hP1
          | replace st := St.prs (b := c.pb) st 3 rfl cw (.inl (.head _)) hP1
          | replace st := St.prs (b := c.pb) st 4 rfl cw (.inl (.head _)) hP1
          | replace st := St.prs (b := c.pb) st 5 rfl cw (.inl (.head _)) hP1
          | replace st := St.prs (b := c.pb) st 6 rfl cw (.inl (.head _)) hP1
          | replace st := St.prs (b := c.pb) st 7 rfl cw (.inl (.head _)) hP1
          | replace st := St.prs (b := c.pb) st 8 rfl cw (.inl (.head _)) hP1
          | replace st := St.prs (b := c.pb) st 9 rfl cw (.inl (.head _)) hP1
          dsimp only [setNth] at st
          refine vc_end ?_
          refine vq_then ?_
          refine vc_keep [(4, _), (5, _)] ⟨rfl, rfl, trivial⟩ ?_
          refine vc_seq ?_
          refine vc_region ?_
          refine vc_y rfl rfl ((by first | exact y_faz (k := 1) rfl Tryd.underlying53 rfl rfl Tryd.sizeOf9 rfl | exact y_fa (k := 1) rfl Tryd.underlying53 rfl rfl Tryd.sizeOf9 rfl)) ?_
          refine vc_y rfl rfl ((by first | exact y_ld st 0 rfl Tryd.isAgg9 rfl rfl | exact y_ld st 1 rfl Tryd.isAgg9 rfl rfl | exact y_ld st 2 rfl Tryd.isAgg9 rfl rfl | exact y_ld st 3 rfl Tryd.isAgg9 rfl rfl | exact y_ld st 4 rfl Tryd.isAgg9 rfl rfl | exact y_ld st 5 rfl Tryd.isAgg9 rfl rfl | exact y_ld st 6 rfl Tryd.isAgg9 rfl rfl | exact y_ld st 7 rfl Tryd.isAgg9 rfl rfl | exact y_ld st 8 rfl Tryd.isAgg9 rfl rfl)) ?_
          refine vc_y rfl rfl ((by first | exact y_faz (k := 3) rfl Tryd.underlying53 rfl rfl Tryd.sizeOf3 rfl | exact y_fa (k := 3) rfl Tryd.underlying53 rfl rfl Tryd.sizeOf3 rfl)) ?_
          refine vc_y rfl rfl ((by first | exact y_ld st 0 rfl Tryd.isAgg3 rfl rfl | exact y_ld st 1 rfl Tryd.isAgg3 rfl rfl | exact y_ld st 2 rfl Tryd.isAgg3 rfl rfl | exact y_ld st 3 rfl Tryd.isAgg3 rfl rfl | exact y_ld st 4 rfl Tryd.isAgg3 rfl rfl | exact y_ld st 5 rfl Tryd.isAgg3 rfl rfl | exact y_ld st 6 rfl Tryd.isAgg3 rfl rfl | exact y_ld st 7 rfl Tryd.isAgg3 rfl rfl | exact y_ld st 8 rfl Tryd.isAgg3 rfl rfl)) ?_
          refine vc_y rfl rfl (y_bld (.agg #[_, _, _, _, _, _]) [(0, _), (3, _), (5, _)] rfl (fun w => by simp [Instr.build, go_sem] <;> repeat' constructor)) ?_
          first
          | refine vc_e (e_sts (vs := [_, _, _, _, _, _]) st 0 rfl rfl rfl rfl rfl Tryd.sizeOf26 rfl rfl (by first | (right; assumption) | (left; simp)) ?_)
          | refine vc_e (e_sts (vs := [_, _, _, _, _, _]) st 1 rfl rfl rfl rfl rfl Tryd.sizeOf26 rfl rfl (by first | (right; assumption) | (left; simp)) ?_)
          | refine vc_e (e_sts (vs := [_, _, _, _, _, _]) st 2 rfl rfl rfl rfl rfl Tryd.sizeOf26 rfl rfl (by first | (right; assumption) | (left; simp)) ?_)
          | refine vc_e (e_sts (vs := [_, _, _, _, _, _]) st 3 rfl rfl rfl rfl rfl Tryd.sizeOf26 rfl rfl (by first | (right; assumption) | (left; simp)) ?_)
          | refine vc_e (e_sts (vs := [_, _, _, _, _, _]) st 4 rfl rfl rfl rfl rfl Tryd.sizeOf26 rfl rfl (by first | (right; assumption) | (left; simp)) ?_)
          | refine vc_e (e_sts (vs := [_, _, _, _, _, _]) st 5 rfl rfl rfl rfl rfl Tryd.sizeOf26 rfl rfl (by first | (right; assumption) | (left; simp)) ?_)
          | refine vc_e (e_sts (vs := [_, _, _, _, _, _]) st 6 rfl rfl rfl rfl rfl Tryd.sizeOf26 rfl rfl (by first | (right; assumption) | (left; simp)) ?_)
          | refine vc_e (e_sts (vs := [_, _, _, _, _, _]) st 7 rfl rfl rfl rfl rfl Tryd.sizeOf26 rfl rfl (by first | (right; assumption) | (left; simp)) ?_)
          | refine vc_e (e_sts (vs := [_, _, _, _, _, _]) st 8 rfl rfl rfl rfl rfl Tryd.sizeOf26 rfl rfl (by first | (right; assumption) | (left; simp)) ?_)
          intro w st; dsimp only [setNth, wr] at st
          refine vc_end ?_
          refine vq_then ?_
          refine vc_keep [(4, _)] ⟨rfl, trivial⟩ ?_
          refine vc_ret ?_
          refine vq_block_ret ?_
          refine vq_then_ret ?_
          refine vq_ret1 st (.inl rfl) Tryd.results57 (by first | exact .cell 0 rfl rfl Tryd.isAgg26 Tryd.sizeOf26 | exact .cell 1 rfl rfl Tryd.isAgg26 Tryd.sizeOf26 | exact .cell 2 rfl rfl Tryd.isAgg26 Tryd.sizeOf26 | exact .cell 3 rfl rfl Tryd.isAgg26 Tryd.sizeOf26 | exact .cell 4 rfl rfl Tryd.isAgg26 Tryd.sizeOf26 | exact .cell 5 rfl rfl Tryd.isAgg26 Tryd.sizeOf26 | exact .cell 6 rfl rfl Tryd.isAgg26 Tryd.sizeOf26 | exact .cell 7 rfl rfl Tryd.isAgg26 Tryd.sizeOf26 | exact .cell 8 rfl rfl Tryd.isAgg26 Tryd.sizeOf26) ?_
          refine .inl ⟨_, rfl, ?_⟩
          exact ⟨_, _, hs, List.tail_suffix _, tail_lt hne, (by first | exact st.res (i := 0) rfl | exact st.res (i := 1) rfl | exact st.res (i := 2) rfl | exact st.res (i := 3) rfl | exact st.res (i := 4) rfl | exact st.res (i := 5) rfl | exact st.res (i := 6) rfl | exact st.res (i := 7) rfl | exact st.res (i := 8) rfl | exact st.res (i := 9) rfl), st.chg, none, 0, [], rfl, ⟨[], [], World.ownsRow_nil _ _ _ _, rfl, rfl, rfl⟩, Nw.nil⟩
        · intro hc40
          try simp only [decide_eq_true_eq, decide_eq_false_iff_not, Bool.not_eq_true', Bool.not_eq_false', Bool.not_eq_true, Bool.not_eq_false, Int.not_lt, Int.not_le, Nat.not_lt, Nat.not_le, Bool.not_true, Bool.not_false, Bool.true_eq_false, Bool.false_eq_true] at hc40
          refine vc_seq ?_
          refine vc_region ?_
          refine vc_y rfl rfl (y_mv rfl) ?_
          refine vc_y rfl rfl (y_not rfl) ?_
          refine vc_y rfl rfl (y_as rfl) ?_
          refine vc_end ?_
          refine vq_then ?_
          refine vc_keep [(0, _), (1, _), (4, _), (5, _), (51, _)] ⟨rfl, rfl, rfl, rfl, rfl, trivial⟩ ?_
          refine vc_ifs rfl ?_ ?_
          · intro hc51
            try simp only [decide_eq_true_eq, decide_eq_false_iff_not, Bool.not_eq_true', Bool.not_eq_false', Bool.not_eq_true, Bool.not_eq_false, Int.not_lt, Int.not_le, Nat.not_lt, Nat.not_le, Bool.not_true, Bool.not_false, Bool.true_eq_false, Bool.false_eq_true] at hc51
            have hs := (unary_out (e := c.e) (m := m) hin.symm).trans (show leafP c.e r = fail c.e 2 r by unfold leafP; rw [if_neg (by omega), if_neg (by omega)])
            refine vc_region ?_
            refine vc_y rfl rfl (y_mv rfl) ?_
            refine vc_e (e_callp [_, _] rfl rfl Tryd.call30 rfl (pfail_any c 2 r hr _ (hC.k1 st.chg) (by first | exact st.res (i := 0) rfl | exact st.res (i := 1) rfl | exact st.res (i := 2) rfl | exact st.res (i := 3) rfl | exact st.res (i := 4) rfl | exact st.res (i := 5) rfl | exact st.res (i := 6) rfl | exact st.res (i := 7) rfl | exact st.res (i := 8) rfl | exact st.res (i := 9) rfl) hR) (by rintro _ w' ⟨rfl, ch⟩ a ha; exact And.intro ha (Or.inr ⟨_, rfl, (atT c.e r, 2), by rw [hs]; rfl, rfl, st.chg.trans ch.of_nil⟩)) (fun _ _ h => h.elim))
          · intro hc51
            exfalso; revert hc51; simp

end Go.Proofs.YtggnfanphcaamaaDoor


/- The engine, sixteenth part: a text that grows in somebody's memory: a struct of a byte slice and a flag. -/
namespace Sx
open Go Go.RowKit
set_option linter.unusedVariables false
set_option linter.unusedSimpArgs false

theorem loc_owns (E n : Nat) (v : Value) (xs : List Value) : Loc v.ownBlock.toList fun w => w.ownsRow 0 E 1 v n xs := by
  intro w w' hs hk ⟨h1, h2⟩
  refine ⟨h1, h2.imp id fun ⟨g, cap, cur, e, hb, hc, hr⟩ => ⟨g, cap, cur, e, hb, ?_, hr⟩⟩
  rw [hk g (by rw [e]; simp [Value.ownBlock])]; exact hc

section
variable {w0 w w' : World} {M : List Nat} {hs : List Res}

variable {P : Program} {n : Fr} {L : List Oper} {Q : Exit → Act → World → Prop} {kn : Kn} {N : Act → World → Prop}
variable {d ty : Nat} {pos : String} {aft : Array Edge} {g : Option (Nat × Bool)}

/-! ## the text -/
/-- what lies there tells of the text: all of it, or that it is too long -/
def WS (l : List UInt8) (many : Bool) (F : List UInt8) : Prop := (many = false ∧ l = F ∧ F.length ≤ 65536) ∨ (many = true ∧ 65536 < F.length ∧ l.length ≤ 65536)
theorem WS.le {l F : List UInt8} {m : Bool} (h : WS l m F) : l.length ≤ 65536 := by
  rcases h with ⟨_, rfl, h⟩ | ⟨_, _, h⟩ <;> exact h
theorem WS.put {l F : List UInt8} (h : WS l false F) {G : List UInt8} (hG : l.length + G.length ≤ 65536) : WS (l ++ G) false (F ++ G) := by
  rcases h with ⟨_, rfl, h⟩ | ⟨h, _⟩
  · exact .inl ⟨rfl, rfl, by simpa using hG⟩
  · cases h
/-- another text that is too long as well -/
theorem WS.swap {l F G G' : List UInt8} {m : Bool} (h : WS l m (F ++ G')) (hG : G' = G ∨ 65536 < G'.length ∧ 65536 < G.length) : WS l m (F ++ G) := by
  rcases hG with rfl | ⟨h1, h2⟩
  · exact h
  · rcases h with ⟨_, rfl, h⟩ | ⟨rfl, _, h⟩
    · simp at h; omega
    · exact .inr ⟨rfl, by simp; omega, h⟩
def Wr (E n0 T bw : Nat) (v : Value) (F : List UInt8) (w : World) : Prop := ∃ l many, w.heap[bw]? = some (.cells #[v, .bool many] T (0, 0)) ∧ w.ownsRow 0 E 1 v l.length (bytesL l) ∧ WS l many F ∧ n0 ≤ bw ∧ ∀ k, v.ownBlock = some k → n0 ≤ k ∧ k ≠ bw
def WrP (E n0 T bw : Nat) (v : Value) (F : List UInt8) (w w' : World) : Prop := ∃ v', Wr E n0 T bw v' F w' ∧ Chg (bw :: v.ownBlock.toList) w w' ∧ ∀ k, v'.ownBlock = some k → v.ownBlock = some k ∨ w.heap.size ≤ k
def wrR (M : List Nat) (base E n0 T bw : Nat) (v : Value) (F : List UInt8) : Res := .tree (bw :: v.ownBlock.toList) fun w => Wr E n0 T bw v F w ∧ (bw ∈ M ∨ base ≤ bw) ∧ ∀ k, v.ownBlock = some k → k ∈ M ∨ base ≤ k
variable {E n0 T bw : Nat} {v : Value} {F : List UInt8}
theorem Wr.lt (h : Wr E n0 T bw v F w) : ∀ k ∈ bw :: v.ownBlock.toList, k < w.heap.size := by
  obtain ⟨l, many, hb, ho, hws, h1, h2⟩ := h
  intro k hk
  rcases List.mem_cons.1 hk with rfl | hk
  · exact (Array.getElem?_eq_some_iff.1 hb).1
  · exact (World.ownsRow.lt ho k (by simpa using hk)).2
theorem Wr.loc : Loc (bw :: v.ownBlock.toList) (Wr E n0 T bw v F) := by
  intro a b hs hk ⟨l, many, hb, ho, hr⟩
  exact ⟨l, many, by rw [hk bw (.head _)]; exact hb, loc_owns E _ v _ a b hs (fun k h => hk k (.tail _ h)) ho, hr⟩
theorem wrR_holds {base' base : Nat} (h : Wr E n0 T bw v F w) (hb : bw ∈ M ∨ base ≤ bw) (hm : ∀ k, v.ownBlock = some k → k ∈ M ∨ base ≤ k) : (wrR M base E n0 T bw v F).holds base' w :=
  ⟨⟨h, hb, hm⟩, h.lt, fun a b hs hk h => ⟨Wr.loc a b hs hk h.1, h.2⟩⟩
/-- a callee has written -/
theorem St.wr (st : St w0 M hs w) {i : Nat} {F' : List UInt8} (hi : nth hs i = some (wrR M w0.heap.size E n0 T bw v F)) (p : WrP E n0 T bw v F' w w') : ∃ v', St w0 M (setNth hs i (wrR M w0.heap.size E n0 T bw v' F')) w' := by
  obtain ⟨v', h1, h2, h3⟩ := p
  obtain ⟨⟨k1, k2, k3⟩, -⟩ := st.res hi
  refine ⟨v', st.swap hi h2 (by simp [Res.at?, wrR]) (fun k hk => ?_) (fun k hk => ?_) (wrR_holds h1 k2 fun k hk => ?_)⟩
  · rcases List.mem_cons.1 hk with rfl | hk
    · exact k2
    · exact k3 k (by simpa using hk)
  · simp only [Res.at?, wrR, List.mem_cons, Option.mem_toList] at hk ⊢
    rcases hk with rfl | hk
    · exact .inl (.inl rfl)
    · exact (h3 k hk).imp .inr id
  · rcases h3 k hk with h | h
    · exact k3 k h
    · exact .inr (Nat.le_trans st.chg.size h)
/-- what lies in other blocks stays -/
theorem Wr.same (h : Wr E n0 T bw v F w) (c : Chg (bw :: v.ownBlock.toList) w w') : w.heap.size ≤ w'.heap.size ∧ ∀ b, b < n0 → b < w.heap.size → w'.heap[b]? = w.heap[b]? := by
  obtain ⟨l, many, hb, ho, hws, h1, h2⟩ := h
  refine ⟨c.size, fun b hb hl => c.block b hl fun hk => ?_⟩
  rcases List.mem_cons.1 hk with rfl | hk
  · omega
  · have := (h2 b (by simpa using hk)).1; omega
theorem WrP.eq {F' : List UInt8} (p : WrP E n0 T bw v F w w') (h : F = F') : WrP E n0 T bw v F' w w' := h ▸ p
end
end Sx


/- The engine, seventeenth part: a byte slice in a box that a closure holds. -/
namespace Sx
open Go Go.RowKit
set_option linter.unusedVariables false
set_option linter.unusedSimpArgs false
section
variable {w0 w w' : World} {M : List Nat} {hs : List Res} {E n0 T b n n' : Nat} {v v' : Value} {l l' : List UInt8} {xs xs' : List Value}

theorem St.split2 {q r s : Res} (st : St w0 M (q :: hs) w) (h1 : ∀ k ∈ r.at?, k ∈ q.at?) (h2 : ∀ k ∈ s.at?, k ∈ q.at?) (h3 : ∀ k ∈ r.at?, k ∉ s.at?) (hr : r.holds w0.heap.size w) (hs' : s.holds w0.heap.size w) : St w0 M (r :: s :: hs) w := by
  have hnd := List.pairwise_cons.1 st.nodup
  refine ⟨st.chg, List.pairwise_cons.2 ⟨fun x hx => ?_, List.pairwise_cons.2 ⟨fun x hx k hk => hnd.1 x hx k (h2 k hk), hnd.2⟩⟩, fun x hx => ?_⟩
  · rcases List.mem_cons.1 hx with rfl | hx
    · exact h3
    · exact fun k hk => hnd.1 x hx k (h1 k hk)
  · rcases List.mem_cons.1 hx with rfl | hx
    · exact hr
    · rcases List.mem_cons.1 hx with rfl | hx
      · exact hs'
      · exact st.here x (.tail _ hx)

def Bx (E n0 T b : Nat) (v : Value) (l : List UInt8) (w : World) : Prop := w.heap[b]? = some (.cells #[v] T (0, 0)) ∧ w.ownsRow 0 E 1 v l.length (bytesL l) ∧ n0 ≤ b ∧ ∀ k, v.ownBlock = some k → n0 ≤ k ∧ k ≠ b
theorem Bx.loc : Loc (b :: v.ownBlock.toList) (Bx E n0 T b v l) := by
  intro a c hs hk ⟨hb, ho, hr⟩
  exact ⟨by rw [hk b (.head _)]; exact hb, loc_owns E _ v _ a c hs (fun k h => hk k (.tail _ h)) ho, hr⟩
theorem Bx.lt (h : Bx E n0 T b v l w) : ∀ k ∈ b :: v.ownBlock.toList, k < w.heap.size := by
  obtain ⟨hb, ho, h1, h2⟩ := h
  intro k hk
  rcases List.mem_cons.1 hk with rfl | hk
  · exact (Array.getElem?_eq_some_iff.1 hb).1
  · exact (World.ownsRow.lt ho k (by simpa using hk)).2
end
end Sx


/- A parser's statements. -/
namespace Sx
open Go Go.RowKit LexS ParS
set_option linter.unusedVariables false
set_option linter.unusedSimpArgs false
abbrev sm00 (a : Int) : List Value := [.int .u8 0, str [], str [], .slice none 0 0, .slice none 0 0, .slice none 0 0, .int .i64 a]
def choiceP (e : Nat) (blk : List Tok → PR (List Sm)) (a : Nat) (r0 : List Tok) : PR Sm := match condP e r0 with
  | .error f => .error f
  | .ok (x, r) => match blk r with
    | .error f => .error f
    | .ok (b, r1) => if isT wElse r1 = true then (match blk r1.tail with
        | .error f => .error f
        | .ok (l, r2) => .ok (.mk 3 [] [] [x] b l (a : Int), r2))
      else .ok (.mk 3 [] [] [x] b [] (a : Int), r1)
def loopP (e : Nat) (blk : List Tok → PR (List Sm)) (a : Nat) (r0 : List Tok) : PR Sm := match condP e r0 with
  | .error f => .error f
  | .ok (x, r) => match blk r with
    | .error f => .error f
    | .ok (b, r1) => .ok (.mk 4 [] [] [x] b [] (a : Int), r1)
def guardP (e : Nat) (blk : List Tok → PR (List Sm)) (a : Nat) (r0 : List Tok) : PR Sm := match nameP e r0 with
  | .error f => .error f
  | .ok (t, r) => match blk r with
    | .error f => .error f
    | .ok (b, r1) => .ok (.mk 5 t.text [] [] b [] (a : Int), r1)
def printP (e : Nat) (a : Nat) (r0 : List Tok) : PR Sm := match exprP e 64 r0 with
  | .error f => .error f
  | .ok (x, r) => match want e [59] r with
    | .error f => .error f
    | .ok r' => .ok (.mk 6 [] [] [x] [] [] (a : Int), r')
def skipP (e : Nat) (a : Nat) (r0 : List Tok) : PR Sm := match want e [59] r0 with
  | .error f => .error f
  | .ok r => .ok (.mk 7 [] [] [] [] [] (a : Int), r)
theorem stmtW_eq (e : Nat) (blk : List Tok → PR (List Sm)) (ts : List Tok) : stmtW e blk ts =
    if formT (here ts) wIf = true then choiceP e blk (atT e ts) ts.tail
    else if formT (here ts) wWhile = true then loopP e blk (atT e ts) ts.tail
    else if formT (here ts) wLock = true then guardP e blk (atT e ts) ts.tail
    else if formT (here ts) wPrint = true then printP e (atT e ts) ts.tail
    else if formT (here ts) wSkip = true then skipP e (atT e ts) ts.tail
    else assignP e (atT e ts) ts := by
  unfold stmtW choiceP loopP guardP printP skipP
  have hx : ∀ r, exprSemi e r = match exprP e 64 r with
      | .error f => .error f
      | .ok (x, r) => match want e [59] r with
        | .error f => .error f
        | .ok r' => .ok (x, r') := fun r => rfl
  split
  · rfl
  · split
    · rfl
    · split
      · rfl
      · split
        · rw [hx]
          cases exprP e 64 ts.tail with
          | error f => rfl
          | ok p =>
            simp only
            cases want e [59] p.2 <;> rfl
        · split <;> rfl
/-- the pieces of an assignment -/
theorem assignP_eq (e a : Nat) (ts : List Tok) : assignP e a ts = match nameP e ts with
    | .error f => .error f
    | .ok (t, r) => match want e [61] r with
      | .error f => .error f
      | .ok r1 => if isT wSwap r1 = true then (match want e [40] r1.tail with
          | .error f => .error f
          | .ok r2 => match nameP e r2 with
            | .error f => .error f
            | .ok (o, r3) => match want e [44] r3 with
              | .error f => .error f
              | .ok r4 => match exprP e 64 r4 with
                | .error f => .error f
                | .ok (x, r5) => match wantL e [[41], [59]] r5 with
                  | .error f => .error f
                  | .ok r6 => .ok (.mk 2 t.text o.text [x] [] [] (a : Int), r6))
        else match exprP e 64 r1 with
          | .error f => .error f
          | .ok (x, r2) => match want e [59] r2 with
            | .error f => .error f
            | .ok r3 => .ok (.mk 1 t.text [] [x] [] [] (a : Int), r3) := by
  unfold assignP swapP exprSemi
  cases nameP e ts with
  | error f => rfl
  | ok p =>
    simp only
    cases want e [61] p.2 with
    | error f => rfl
    | ok r1 =>
      simp only
      split
      · cases want e [40] r1.tail with
        | error f => rfl
        | ok r2 =>
          simp only
          cases nameP e r2 with
          | error f => rfl
          | ok q =>
            simp only
            cases want e [44] q.2 with
            | error f => rfl
            | ok r4 =>
              simp only
              cases exprP e 64 r4 with
              | error f => rfl
              | ok y =>
                simp only [wantL]
                cases want e [41] y.2 with
                | error f => rfl
                | ok r5 =>
                  simp only
                  cases want e [59] r5 <;> rfl
      · cases exprP e 64 r1 with
        | error f => rfl
        | ok y =>
          simp only
          cases want e [59] y.2 <;> rfl
/-- a block's reader; 'm': how much deeper blocks may lie -/
def blkP (e : Nat) : Nat → List Tok → PR (List Sm)
  | 0, r => if isT [123] r = true then fail e 3 r else fail e 2 r
  | m + 1, r => match want e [123] r with
    | .error f => .error f
    | .ok r1 => restW (stmtP e m) (r1.length + 1) r1
theorem stmtP_blk (e m : Nat) : stmtP e m = stmtW e (blkP e m) := by
  cases m with
  | zero => funext ts; rw [stmtP]; rfl
  | succ m => funext ts; rw [stmtP]; rfl
/-- statements, so many having come -/
def contS (st : List Tok → PR Sm) (n : Nat) (acc : List Sm) (r : List Tok) : PR (List Sm) := match restW st n r with
  | .error f => .error f
  | .ok (l, r') => .ok (acc ++ l, r')
theorem contS_nil (st : List Tok → PR Sm) (n : Nat) (r : List Tok) : restW st n r = contS st n [] r := by unfold contS; cases restW st n r with | error f => rfl | ok p => rfl
theorem contS_end {st : List Tok → PR Sm} {n : Nat} {acc : List Sm} {r : List Tok} (h : isT [125] r = true) : contS st (n + 1) acc r = .ok (acc, r.tail) := by simp only [contS, restW, if_pos h, List.append_nil]
theorem contS_step {st : List Tok → PR Sm} {n : Nat} {acc : List Sm} {r : List Tok} (h : isT [125] r = false) : contS st (n + 1) acc r = match st r with
    | .error f => .error f
    | .ok (s, r') => contS st n (acc ++ [s]) r' := by
  simp only [contS, restW, if_neg (show ¬ isT [125] r = true by simp [h])]
  cases st r with
  | error f => rfl
  | ok p =>
    simp only
    cases restW st n p.2 with
    | error f => rfl
    | ok q => simp
section
variable {tE tS : Nat} {w : World}
theorem exr_nil : ExR tE w none 0 [] [] := ⟨[], [], World.ownsRow_nil _ _ _ _, rfl, rfl, rfl⟩
theorem smr_nil : SmR tE tS w none 0 [] [] := ⟨[], [], World.ownsRow_nil _ _ _ _, rfl, rfl, rfl⟩
/-- what a statement's reader leaves in its block -/
def StIn (tE tS xb : Nat) (n : Nat) (s : Sm) (w' : World) : Prop := ∃ oe ob ol ce cb cl Se Sb Sl, w'.heap[xb]? = some (.cells (smC s oe ob ol ce cb cl).toArray tS (0, 0)) ∧ ExR tE w' oe ce s.e Se ∧ SmR tE tS w' ob cb s.body Sb ∧ SmR tE tS w' ol cl s.els Sl ∧ Nw n (Se ++ (Sb ++ Sl))
theorem getF5 {v1 v2 v3 v4 v5 : Value} (s : List UInt8) : (s = wIf ∧ getF [(wIf, v1), (wWhile, v2), (wLock, v3), (wPrint, v4), (wSkip, v5)] s = some v1) ∨ (s = wWhile ∧ getF [(wIf, v1), (wWhile, v2), (wLock, v3), (wPrint, v4), (wSkip, v5)] s = some v2) ∨
    (s = wLock ∧ getF [(wIf, v1), (wWhile, v2), (wLock, v3), (wPrint, v4), (wSkip, v5)] s = some v3) ∨ (s = wPrint ∧ getF [(wIf, v1), (wWhile, v2), (wLock, v3), (wPrint, v4), (wSkip, v5)] s = some v4) ∨ (s = wSkip ∧ getF [(wIf, v1), (wWhile, v2), (wLock, v3), (wPrint, v4), (wSkip, v5)] s = some v5) ∨
    ((s ≠ wIf ∧ s ≠ wWhile ∧ s ≠ wLock ∧ s ≠ wPrint ∧ s ≠ wSkip) ∧ getF [(wIf, v1), (wWhile, v2), (wLock, v3), (wPrint, v4), (wSkip, v5)] s = none) := by
  by_cases h1 : s = wIf
  · exact .inl ⟨h1, by simp [getF, h1]⟩
  by_cases h2 : s = wWhile
  · exact .inr (.inl ⟨h2, by subst h2; simp [getF, h1]⟩)
  by_cases h3 : s = wLock
  · exact .inr (.inr (.inl ⟨h3, by subst h3; simp [getF, h1, h2]⟩))
  by_cases h4 : s = wPrint
  · exact .inr (.inr (.inr (.inl ⟨h4, by subst h4; simp [getF, h1, h2, h3]⟩)))
  by_cases h5 : s = wSkip
  · exact .inr (.inr (.inr (.inr (.inl ⟨h5, by subst h5; simp [getF, h1, h2, h3, h4]⟩))))
  · exact .inr (.inr (.inr (.inr (.inr ⟨⟨h1, h2, h3, h4, h5⟩, by simp [getF, h1, h2, h3, h4, h5]⟩))))
end
end Sx
namespace Sx
open Go Go.RowKit LexS ParS
set_option linter.unusedVariables false
section
variable {w w' w0 : World} {M : List Nat} {hs : List Res}
/-- two blocks have been written on by a callee, and something new has come -/
theorem St.prs2 {b1 b2 : Nat} {o1 o2 o1' o2' : Obj} {q : Res} (st : St w0 M (.blk b1 o1 :: .blk b2 o2 :: hs) w) (ch : Chg [b1, b2] w w') (hm1 : b1 ∈ M ∨ w0.heap.size ≤ b1) (hm2 : b2 ∈ M ∨ w0.heap.size ≤ b2)
    (h1 : w'.heap[b1]? = some o1') (h2 : w'.heap[b2]? = some o2') (hq : q.holds w0.heap.size w') (hqa : ∀ k ∈ q.at?, w.heap.size ≤ k) : St w0 M (q :: .blk b1 o1' :: .blk b2 o2' :: hs) w' := by
  have hne : b1 ≠ b2 := st.bne 0 1 (by decide) rfl rfl
  have l1 : b1 < w.heap.size := (Array.getElem?_eq_some_iff.1 (st.res (i := 0) rfl)).1
  have l2 : b2 < w.heap.size := (Array.getElem?_eq_some_iff.1 (st.res (i := 1) rfl)).1
  have st1 := st.join (q := .tree [b1, b2] (fun _ => True)) (fun k hk => by
    simp only [Res.at?, List.mem_cons, List.not_mem_nil, or_false] at hk ⊢; exact hk) ⟨trivial, fun k hk => by
      simp only [List.mem_cons, List.not_mem_nil, or_false] at hk
      rcases hk with rfl | rfl <;> assumption, fun _ _ _ _ _ => trivial⟩
  have st2 := st1.swapPush (i := 0) (r' := .tree [b1, b2] (fun _ => True)) rfl ch (fun k hk => hk) (fun k hk => by
      simp only [List.mem_cons, List.not_mem_nil, or_false] at hk
      rcases hk with rfl | rfl <;> assumption) (fun k hk => hk) ⟨trivial, fun k hk => by
      simp only [List.mem_cons, List.not_mem_nil, or_false] at hk
      rcases hk with rfl | rfl
      · exact Nat.lt_of_lt_of_le l1 ch.size
      · exact Nat.lt_of_lt_of_le l2 ch.size, fun _ _ _ _ _ => trivial⟩ hq hqa
  have st3 := st2.perm (List.Perm.swap _ _ _)
  have st4 := st3.split2 (r := .blk b1 o1') (s := .blk b2 o2') (fun k hk => by
    simp only [Res.at?, List.mem_cons, List.not_mem_nil, or_false] at hk ⊢; exact .inl hk) (fun k hk => by
    simp only [Res.at?, List.mem_cons, List.not_mem_nil, or_false] at hk ⊢; exact .inr hk) (fun k hk hk' => by
    simp only [Res.at?, List.mem_cons, List.not_mem_nil, or_false] at hk hk'; exact hne (hk.symm.trans hk')) h1 h2
  exact st4.perm ((List.Perm.cons _ (List.Perm.swap _ _ _)).trans (List.Perm.swap _ _ _))
end
theorem form_ne {t : Tok} {s s' : List UInt8} (h : t.text = s') (hne : s' ≠ s) : ¬ formT t s = true := by unfold formT; simp [h, hne]
theorem stmtW_assign {e : Nat} {blk : List Tok → PR (List Sm)} {ts : List Tok} (h : ((here ts).text ≠ wIf ∧ (here ts).text ≠ wWhile ∧ (here ts).text ≠ wLock ∧ (here ts).text ≠ wPrint ∧ (here ts).text ≠ wSkip) ∨ (here ts).kind ≠ 2) :
    stmtW e blk ts = assignP e (atT e ts) ts := by
  have key : ∀ s, (here ts).text ≠ s ∨ (here ts).kind ≠ 2 → ¬ formT (here ts) s = true := fun s h => by
    unfold formT
    rcases h with h | h <;> simp [h]
  rw [stmtW_eq, if_neg (key _ (h.imp (·.1) id)), if_neg (key _ (h.imp (·.2.1) id)), if_neg (key _ (h.imp (·.2.2.1) id)), if_neg (key _ (h.imp (·.2.2.2.1) id)), if_neg (key _ (h.imp (·.2.2.2.2) id))]
end Sx

