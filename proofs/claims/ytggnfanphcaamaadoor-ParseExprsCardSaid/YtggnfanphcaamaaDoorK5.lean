/- A part of the proof: contracts of functions and plain laws; each theorem says its own conditions. -/
import Derived.Test.YtggnfanphcaamaaDoorK3
import Derived.Test.YtggnfanphcaamaaDoorK4
namespace Go.Proofs.YtggnfanphcaamaaDoor
open Go.RowKit Sx LexS ParS
set_option linter.unusedVariables false
set_option linter.unusedSimpArgs false
theorem lvlO_bounds (op : Nat) : 0 ≤ lvlO (op : Int) ∧ lvlO (op : Int) ≤ 9 := by
  unfold lvlO
  split
  · rename_i h
    have key : ∀ k : Nat, k < 19 → 0 ≤ lvl k ∧ lvl k ≤ 9 := by decide
    simp only [knownOp, decide_eq_true_eq] at h
    simpa using key op (by omega)
  · omega
theorem lvlO_le (op : Nat) : lvlO (op : Int) ≤ 9 := (lvlO_bounds op).2
theorem lvlO_ge (op : Nat) : 0 ≤ lvlO (op : Int) := (lvlO_bounds op).1
/-- readers of operands, of expressions, along so many tokens -/
def UR (c : RCtx) (n : Nat) : Prop := ∀ (m d : Nat), d + m = 64 → ∀ (σ : RS), σ.r <:+ c.ts → (σ.ok → σ.r.length ≤ n) → ∀ (w : World), RCok c w → RAt c σ w → Ret Tryd.prog 63 [.pointer (some ⟨c.rb, 0, none⟩), .int .i64 (d : Int)] w (RRes c σ (unaryP c.e m) w (HE w))
def ER (c : RCtx) (n : Nat) : Prop := ∀ (m d : Nat), d + m = 64 → ∀ (lv : Int), 0 ≤ lv → lv ≤ 10 → ∀ (σ : RS), σ.r <:+ c.ts → (σ.ok → σ.r.length ≤ n) → ∀ (w : World), RCok c w → RAt c σ w → Ret Tryd.prog 32 [.pointer (some ⟨c.rb, 0, none⟩), .int .i64 lv, .int .i64 (d : Int)] w (RRes c σ (climbE (unaryP c.e m) lv) w (HE w))

set_option maxHeartbeats 1000000 in
theorem runary_of (c : RCtx) (n : Nat) (hU : ∀ k, k < n → UR c k) (hE : ∀ k, k < n → ER c k) : UR c n := by
  intro m d hd σ hr hn w hC hP
  refine ret_of [_, _] Tryd.func63 rfl Tryd.ntmps63 rfl ?_
  
  obtain ⟨w0, rfl⟩ : ∃ w0, w0 = w := ⟨_, rfl⟩
  have hP' := hP
  dsimp only [RAt, rcell] at hP
  have st := St.of1 [c.rb] hP
  have h20 := hC.len
  have hl := suf_len hr
  refine vc_seq ?_
  refine vc_region ?_
  refine vc_e (e_al (l := [_, _, _, _, _, _]) st rfl rfl Tryd.zeroValue26 rfl ?_)
  intro b4 w hb4 st
  refine vc_end ?_
  refine vq_then ?_
  refine vc_keep [(0, _), (1, _), (4, _)] ⟨rfl, rfl, rfl, trivial⟩ ?_
  refine vc_seq ?_
  refine vc_region ?_
  refine vc_y rfl rfl (y_mv rfl) ?_
  refine vc_e (e_call [_] rfl rfl Tryd.call64 rfl (rhere_any c σ hr _ (hC.k1 st.chg) (by exact st.res (i := 1) rfl)) ?_)
  rintro _ w ⟨rfl, cw⟩
  replace st := st.call0 cw
  refine vc_e (e_al (l := [_, _, _, _]) st rfl rfl Tryd.zeroValue53 rfl ?_)
  intro b5 w hb5 st
  refine vc_e (e_sts (vs := [_, _, _, _]) st 0 rfl rfl rfl rfl rfl Tryd.sizeOf53 rfl rfl (by first | (right; assumption) | (left; simp)) ?_)
  intro w st; dsimp only [setNth, wr] at st
  refine vc_end ?_
  refine vq_then ?_
  refine vc_keep [(0, _), (1, _), (4, _), (5, _)] ⟨rfl, rfl, rfl, rfl, trivial⟩ ?_
  refine vc_seq ?_
  refine vc_cut (w0 := w0) (M := [c.rb]) (fun (b : Bool) => [(0, .pointer (some ⟨c.rb, 0, none⟩)), (1, .int .i64 (d : Int)), (4, .pointer (some ⟨b4, 0, none⟩)), (5, .pointer (some ⟨b5, 0, none⟩)), (24, .bool b)]) (fun _ => [.blk b5 (.cells (tkL (hereE c.e σ.r)).toArray 53 (0, 0)), .blk b4 (.cells ex00.toArray 26 (0, 0)), .blk c.rb (.cells (rcell c σ).toArray c.T (0, 0))]) (fun b _ => b = (innerT σ.r && decide (64 ≤ d))) ?_ ?_
  ·
    refine vc_region ?_
    refine vc_y rfl rfl (y_mv rfl) ?_
    refine vc_e (e_call [_, _] rfl rfl Tryd.call83 rfl (ris_any c [45] σ hr _ (hC.k1 st.chg) (by exact st.res (i := 2) rfl)) ?_)
    rintro _ w ⟨rfl, cw⟩
    replace st := st.call0 cw
    refine vc_e (e_mvb rfl rfl rfl ?_ ?_)
    · intro hg13
      try simp only [dn] at hg13
      refine vc_e (e_skip rfl rfl ?_)
      refine vc_e (e_skip rfl rfl ?_)
      refine vc_y rfl rfl (y_pickt rfl rfl) ?_
      refine vc_y rfl rfl (y_mv rfl) ?_
      refine vc_e (e_skip rfl rfl ?_)
      refine vc_e (e_skip rfl rfl ?_)
      refine vc_y rfl rfl (y_pickt rfl rfl) ?_
      refine vc_y rfl rfl (y_mv rfl) ?_
      refine vc_y rfl rfl (y_mv rfl) ?_
      refine vc_y rfl rfl (y_geq rfl rfl) ?_
      refine vc_y rfl rfl (y_pickt rfl rfl) ?_
      refine vc_end ?_
      refine vq_meet (decide ((64 : Int) ≤ (d : Int))) ⟨rfl, rfl, rfl, rfl, rfl, trivial⟩ st ?_
      · show _ = _
        have hi : innerT σ.r = true := by unfold innerT; rw [hg13]; simp
        rw [hi, Bool.true_and, Bool.eq_iff_iff]; simp only [decide_eq_true_eq]; omega
    · intro hg13
      try simp only [dn] at hg13
      refine vc_y rfl rfl (y_mv rfl) ?_
      refine vc_e (e_call [_, _] rfl rfl Tryd.call83 rfl (ris_any c [33] σ hr _ (hC.k1 st.chg) (by exact st.res (i := 2) rfl)) ?_)
      rintro _ w ⟨rfl, cw⟩
      replace st := st.call0 cw
      refine vc_y rfl rfl (y_pickf rfl rfl) ?_
      refine vc_e (e_mvb rfl rfl rfl ?_ ?_)
      · intro hg17
        try simp only [dn] at hg17
        refine vc_e (e_skip rfl rfl ?_)
        refine vc_e (e_skip rfl rfl ?_)
        refine vc_y rfl rfl (y_pickt rfl rfl) ?_
        refine vc_y rfl rfl (y_mv rfl) ?_
        refine vc_y rfl rfl (y_mv rfl) ?_
        refine vc_y rfl rfl (y_geq rfl rfl) ?_
        refine vc_y rfl rfl (y_pickt rfl rfl) ?_
        refine vc_end ?_
        refine vq_meet (decide ((64 : Int) ≤ (d : Int))) ⟨rfl, rfl, rfl, rfl, rfl, trivial⟩ st ?_
        · show _ = _
          have hi : innerT σ.r = true := by unfold innerT; rw [hg17]; simp
          rw [hi, Bool.true_and, Bool.eq_iff_iff]; simp only [decide_eq_true_eq]; omega
      · intro hg17
        try simp only [dn] at hg17
        refine vc_y rfl rfl (y_mv rfl) ?_
        refine vc_e (e_call [_, _] rfl rfl Tryd.call83 rfl (ris_any c [40] σ hr _ (hC.k1 st.chg) (by exact st.res (i := 2) rfl)) ?_)
        rintro _ w ⟨rfl, cw⟩
        replace st := st.call0 cw
        refine vc_y rfl rfl (y_pickf rfl rfl) ?_
        refine vc_e (e_mvb rfl rfl rfl ?_ ?_)
        · intro hg21
          try simp only [dn] at hg21
          refine vc_y rfl rfl (y_mv rfl) ?_
          refine vc_y rfl rfl (y_geq rfl rfl) ?_
          refine vc_y rfl rfl (y_pickt rfl rfl) ?_
          refine vc_end ?_
          refine vq_meet (decide ((64 : Int) ≤ (d : Int))) ⟨rfl, rfl, rfl, rfl, rfl, trivial⟩ st ?_
          · show _ = _
            have hi : innerT σ.r = true := by unfold innerT; rw [hg21]; simp
            rw [hi, Bool.true_and, Bool.eq_iff_iff]; simp only [decide_eq_true_eq]; omega
        · intro hg21
          try simp only [dn] at hg21
          refine vc_e (e_skip rfl rfl ?_)
          refine vc_e (e_skip rfl rfl ?_)
          refine vc_y rfl rfl (y_pickf rfl rfl) ?_
          refine vc_end ?_
          refine vq_meet false ⟨rfl, rfl, rfl, rfl, rfl, trivial⟩ st ?_
          · show _ = _
            have hi : innerT σ.r = false := by unfold innerT; simp_all
            rw [hi]; rfl
  ·
    clear st
    rintro b w hb st
    refine vc_ifs rfl ?_ ?_
    · intro hc24
      try simp only [dn] at hc24
      have hb2 : (innerT σ.r && decide (64 ≤ d)) = true := by rw [← hb]; exact hc24
      simp only [Bool.and_eq_true, decide_eq_true_eq] at hb2
      obtain rfl : m = 0 := by omega
      refine vc_region ?_
      refine vc_y rfl rfl (y_mv rfl) ?_
      refine vc_e (e_call [_, _] rfl rfl Tryd.call34 rfl (rfail_any c 3 σ hr _ (hC.k1 st.chg) (by exact st.res (i := 2) rfl)) ?_)
      rintro _ w ⟨rfl, hP1, cw⟩
      first
      | replace st := St.prs (b := c.rb) st 0 rfl cw (.inl (.head _)) hP1
      | replace st := St.prs (b := c.rb) st 1 rfl cw (.inl (.head _)) hP1
      | replace st := St.prs (b := c.rb) st 2 rfl cw (.inl (.head _)) hP1
      | replace st := St.prs (b := c.rb) st 3 rfl cw (.inl (.head _)) hP1
      | replace st := St.prs (b := c.rb) st 4 rfl cw (.inl (.head _)) hP1
      | replace st := St.prs (b := c.rb) st 5 rfl cw (.inl (.head _)) hP1
      | replace st := St.prs (b := c.rb) st 6 rfl cw (.inl (.head _)) hP1
      | replace st := St.prs (b := c.rb) st 7 rfl cw (.inl (.head _)) hP1
      | replace st := St.prs (b := c.rb) st 8 rfl cw (.inl (.head _)) hP1
      dsimp only [setNth] at st
      refine vc_end ?_
      refine vq_then ?_
      refine vc_keep [(0, _), (1, _), (4, _), (5, _)] ⟨rfl, rfl, rfl, rfl, trivial⟩ ?_
      refine vc_seq ?_
      refine vc_seq ?_
      refine vc_region ?_
      refine vc_y rfl rfl (y_mv rfl) ?_
      refine vc_e (e_call [_] rfl rfl Tryd.call33 rfl (rok_any c (failR c.e 3 σ) (by rw [failR_r]; exact hr) _ (hC.k1 st.chg) (by exact st.res (i := 2) rfl)) ?_)
      rintro _ w ⟨rfl, cw⟩
      replace st := st.call0 cw
      refine vc_y rfl rfl (y_not rfl) ?_
      refine vc_end ?_
      refine vq_then ?_
      refine vc_keep [(0, _), (1, _), (4, _), (5, _), (29, _)] ⟨rfl, rfl, rfl, rfl, rfl, trivial⟩ ?_
      refine vc_ifs rfl ?_ ?_
      · intro hc29
        try simp only [dn] at hc29
        refine vc_seq ?_
        refine vc_region ?_
        refine vc_y rfl rfl (y_bld (.agg #[_, _, _, _, _, _]) [] rfl (fun w => by simp [Instr.build, go_sem] <;> repeat' constructor)) ?_
        refine vc_e (e_sts (vs := [_, _, _, _, _, _]) st 1 rfl rfl rfl rfl rfl Tryd.sizeOf26 rfl rfl (by first | (right; assumption) | (left; simp)) ?_)
        intro w st; dsimp only [setNth, wr] at st
        refine vc_end ?_
        refine vq_then ?_
        refine vc_keep [(4, _)] ⟨rfl, trivial⟩ ?_
        refine vc_ret ?_
        refine vq_then_ret ?_
        refine vq_ret1 st (.inl rfl) Tryd.results63 (by exact .cell 1 rfl rfl Tryd.isAgg26 Tryd.sizeOf26) ?_
        refine ⟨_, rfl, ?_⟩
        exact ⟨ex0, _, unary_deep hb2.1 ex0, by rw [failR_r]; exact List.suffix_refl _, (by exact st.res (i := 2) rfl), st.chg, none, 0, [], rfl, exr_nil, Nw.nil⟩
      · intro hc29
        exfalso; have := failR_not (e := c.e) (k := 3) (σ := σ) (by decide); simp [this] at hc29
    · intro hc24
      try simp only [dn] at hc24
      have hb : (innerT σ.r && decide (64 ≤ d)) = false := by rw [← hb]; exact hc24
      refine vc_code_skip ?_
      refine vq_then ?_
      refine vc_keep [(0, _), (1, _), (4, _), (5, _)] ⟨rfl, rfl, rfl, rfl, trivial⟩ ?_
      refine vc_seq ?_
      refine vc_seq ?_
      refine vc_region ?_
      refine vc_y rfl rfl (y_mv rfl) ?_
      refine vc_e (e_call [_] rfl rfl Tryd.call33 rfl (rok_any c σ hr _ (hC.k1 st.chg) (by exact st.res (i := 2) rfl)) ?_)
      rintro _ w ⟨rfl, cw⟩
      replace st := st.call0 cw
      refine vc_y rfl rfl (y_not rfl) ?_
      refine vc_end ?_
      refine vq_then ?_
      refine vc_keep [(0, _), (1, _), (4, _), (5, _), (29, _)] ⟨rfl, rfl, rfl, rfl, rfl, trivial⟩ ?_
      refine vc_ifs rfl ?_ ?_
      · intro hc29
        try simp only [dn] at hc29
        have ho : ¬ σ.ok := by simpa using hc29
        refine vc_seq ?_
        refine vc_region ?_
        refine vc_y rfl rfl (y_bld (.agg #[_, _, _, _, _, _]) [] rfl (fun w => by simp [Instr.build, go_sem] <;> repeat' constructor)) ?_
        refine vc_e (e_sts (vs := [_, _, _, _, _, _]) st 1 rfl rfl rfl rfl rfl Tryd.sizeOf26 rfl rfl (by first | (right; assumption) | (left; simp)) ?_)
        intro w st; dsimp only [setNth, wr] at st
        refine vc_end ?_
        refine vq_then ?_
        refine vc_keep [(4, _)] ⟨rfl, trivial⟩ ?_
        refine vc_ret ?_
        refine vq_then_ret ?_
        refine vq_ret1 st (.inl rfl) Tryd.results63 (by exact .cell 1 rfl rfl Tryd.isAgg26 Tryd.sizeOf26) ?_
        refine ⟨_, rfl, ?_⟩
        exact ⟨ex0, σ, .bad ho ex0, List.suffix_refl _, (by exact st.res (i := 2) rfl), st.chg, none, 0, [], rfl, exr_nil, Nw.nil⟩
      · intro hc29
        try simp only [dn] at hc29
        have ho : σ.ok := by simpa using hc29
        refine vc_code_skip ?_
        refine vq_then ?_
        refine vc_keep [(0, _), (1, _), (4, _), (5, _)] ⟨rfl, rfl, rfl, rfl, trivial⟩ ?_
        refine vc_seq ?_
        refine vc_block ?_
        refine vc_seq ?_
        refine vc_region ?_
        refine vc_y rfl rfl (y_fa0 rfl Tryd.underlying53 rfl rfl Tryd.sizeOf51 rfl) ?_
        refine vc_y rfl rfl ((by exact y_ld st 0 rfl Tryd.isAgg51 rfl rfl)) ?_
        refine vc_y rfl rfl (y_eqi rfl rfl) ?_
        refine vc_y rfl rfl (y_as rfl) ?_
        refine vc_end ?_
        refine vq_then ?_
        refine vc_keep [(0, _), (1, _), (4, _), (5, _), (31, _)] ⟨rfl, rfl, rfl, rfl, rfl, trivial⟩ ?_
        refine vc_ifs rfl ?_ ?_
        · intro hc31
          try simp only [dn] at hc31
          have hk : (here σ.r).kind = 3 := by rw [hereE_kind] at hc31; omega
          have hne := kind_ne hk (by decide)
          have htl := tail_lt hne
          have ht2 : σ.r.tail.length = σ.r.length - 1 := List.length_tail
          refine vc_seq ?_
          refine vc_region ?_
          refine vc_y rfl rfl (y_mv rfl) ?_
          refine vc_y rfl rfl (y_nck rfl) ?_
          refine vc_y rfl rfl ((by exact y_faz (k := 1) rfl Tryd.underlying75 rfl rfl Tryd.sizeOf3 rfl)) ?_
          refine vc_y rfl rfl ((by exact y_ld st 2 rfl Tryd.isAgg3 rfl rfl)) ?_
          refine vc_y rfl rfl (y_add rfl rfl (by omega : _ = ((c.ts.length - σ.r.tail.length : Nat) : Int)) (by omega) (by omega)) ?_
          refine vc_y rfl rfl (y_nck rfl) ?_
          refine vc_y rfl rfl ((by exact y_faz (k := 1) rfl Tryd.underlying75 rfl rfl Tryd.sizeOf3 rfl)) ?_
          refine vc_e (e_st st 2 rfl rfl rfl rfl Tryd.sizeOf3 rfl rfl (by first | (right; assumption) | (left; simp)) ?_)
          intro w st; dsimp only [setNth, wr] at st
          refine vc_end ?_
          refine vq_then ?_
          refine vc_keep [(4, _), (5, _)] ⟨rfl, rfl, trivial⟩ ?_
          refine vc_seq ?_
          refine vc_region ?_
          refine vc_y rfl rfl ((by exact y_faz (k := 2) rfl Tryd.underlying53 rfl rfl Tryd.sizeOf2 rfl)) ?_
          refine vc_y rfl rfl ((by exact y_ld st 0 rfl Tryd.isAgg2 rfl rfl)) ?_
          refine vc_y rfl rfl ((by exact y_faz (k := 3) rfl Tryd.underlying53 rfl rfl Tryd.sizeOf3 rfl)) ?_
          refine vc_y rfl rfl ((by exact y_ld st 0 rfl Tryd.isAgg3 rfl rfl)) ?_
          refine vc_y rfl rfl (y_bld (.agg #[_, _, _, _, _, _]) [(0, _), (2, _), (5, _)] rfl (fun w => by simp [Instr.build, go_sem] <;> repeat' constructor)) ?_
          refine vc_e (e_sts (vs := [_, _, _, _, _, _]) st 1 rfl rfl rfl rfl rfl Tryd.sizeOf26 rfl rfl (by first | (right; assumption) | (left; simp)) ?_)
          intro w st; dsimp only [setNth, wr] at st
          refine vc_end ?_
          refine vq_then ?_
          refine vc_keep [(4, _)] ⟨rfl, trivial⟩ ?_
          refine vc_ret ?_
          refine vq_block_ret ?_
          refine vq_then_ret ?_
          refine vq_ret1 st (.inl rfl) Tryd.results63 (by exact .cell 1 rfl rfl Tryd.isAgg26 Tryd.sizeOf26) ?_
          refine ⟨_, rfl, ?_⟩
          refine ⟨_, ⟨σ.r.tail, σ.f⟩, unary_num ho hk, List.tail_suffix _, (by exact st.res (i := 2) rfl), st.chg, none, 0, [], ?_, exr_nil, Nw.nil⟩
          rw [hereE_cons hne]; rfl
        · intro hc31
          try simp only [dn] at hc31
          have hk3 : (here σ.r).kind ≠ 3 := by rw [hereE_kind] at hc31; omega
          refine vc_seq ?_
          refine vc_region ?_
          refine vc_y rfl rfl (y_fa0 rfl Tryd.underlying53 rfl rfl Tryd.sizeOf51 rfl) ?_
          refine vc_y rfl rfl ((by exact y_ld st 0 rfl Tryd.isAgg51 rfl rfl)) ?_
          refine vc_y rfl rfl (y_eqi rfl rfl) ?_
          refine vc_y rfl rfl (y_as rfl) ?_
          refine vc_end ?_
          refine vq_then ?_
          refine vc_keep [(0, _), (1, _), (4, _), (5, _), (47, _)] ⟨rfl, rfl, rfl, rfl, rfl, trivial⟩ ?_
          refine vc_ifs rfl ?_ ?_
          · intro hc47
            try simp only [dn] at hc47
            have hk : (here σ.r).kind = 1 := by rw [hereE_kind] at hc47; omega
            have hne := kind_ne hk (by decide)
            have htl := tail_lt hne
            have ht2 : σ.r.tail.length = σ.r.length - 1 := List.length_tail
            refine vc_seq ?_
            refine vc_region ?_
            refine vc_y rfl rfl (y_mv rfl) ?_
            refine vc_y rfl rfl (y_nck rfl) ?_
            refine vc_y rfl rfl ((by exact y_faz (k := 1) rfl Tryd.underlying75 rfl rfl Tryd.sizeOf3 rfl)) ?_
            refine vc_y rfl rfl ((by exact y_ld st 2 rfl Tryd.isAgg3 rfl rfl)) ?_
            refine vc_y rfl rfl (y_add rfl rfl (by omega : _ = ((c.ts.length - σ.r.tail.length : Nat) : Int)) (by omega) (by omega)) ?_
            refine vc_y rfl rfl (y_nck rfl) ?_
            refine vc_y rfl rfl ((by exact y_faz (k := 1) rfl Tryd.underlying75 rfl rfl Tryd.sizeOf3 rfl)) ?_
            refine vc_e (e_st st 2 rfl rfl rfl rfl Tryd.sizeOf3 rfl rfl (by first | (right; assumption) | (left; simp)) ?_)
            intro w st; dsimp only [setNth, wr] at st
            refine vc_end ?_
            refine vq_then ?_
            refine vc_keep [(4, _), (5, _)] ⟨rfl, rfl, trivial⟩ ?_
            refine vc_seq ?_
            refine vc_region ?_
            refine vc_y rfl rfl ((by exact y_faz (k := 1) rfl Tryd.underlying53 rfl rfl Tryd.sizeOf9 rfl)) ?_
            refine vc_y rfl rfl ((by exact y_ld st 0 rfl Tryd.isAgg9 rfl rfl)) ?_
            refine vc_y rfl rfl ((by exact y_faz (k := 3) rfl Tryd.underlying53 rfl rfl Tryd.sizeOf3 rfl)) ?_
            refine vc_y rfl rfl ((by exact y_ld st 0 rfl Tryd.isAgg3 rfl rfl)) ?_
            refine vc_y rfl rfl (y_bld (.agg #[_, _, _, _, _, _]) [(0, _), (3, _), (5, _)] rfl (fun w => by simp [Instr.build, go_sem] <;> repeat' constructor)) ?_
            refine vc_e (e_sts (vs := [_, _, _, _, _, _]) st 1 rfl rfl rfl rfl rfl Tryd.sizeOf26 rfl rfl (by first | (right; assumption) | (left; simp)) ?_)
            intro w st; dsimp only [setNth, wr] at st
            refine vc_end ?_
            refine vq_then ?_
            refine vc_keep [(4, _)] ⟨rfl, trivial⟩ ?_
            refine vc_ret ?_
            refine vq_block_ret ?_
            refine vq_then_ret ?_
            refine vq_ret1 st (.inl rfl) Tryd.results63 (by exact .cell 1 rfl rfl Tryd.isAgg26 Tryd.sizeOf26) ?_
            refine ⟨_, rfl, ?_⟩
            refine ⟨_, ⟨σ.r.tail, σ.f⟩, unary_name ho hk, List.tail_suffix _, (by exact st.res (i := 2) rfl), st.chg, none, 0, [], ?_, exr_nil, Nw.nil⟩
            rw [hereE_cons hne]; rfl
          · intro hc47
            try simp only [dn] at hc47
            have hk1 : (here σ.r).kind ≠ 1 := by rw [hereE_kind] at hc47; omega
            refine vc_seq ?_
            refine vc_region ?_
            refine vc_y rfl rfl (y_mv rfl) ?_
            refine vc_e (e_call [_, _] rfl rfl Tryd.call84 rfl (rtake_any c [40] σ hr _ (hC.k1 st.chg) (by exact st.res (i := 2) rfl)) ?_)
            rintro _ w ⟨rfl, hP1, cw⟩
            first
            | replace st := St.prs (b := c.rb) st 0 rfl cw (.inl (.head _)) hP1
            | replace st := St.prs (b := c.rb) st 1 rfl cw (.inl (.head _)) hP1
            | replace st := St.prs (b := c.rb) st 2 rfl cw (.inl (.head _)) hP1
            | replace st := St.prs (b := c.rb) st 3 rfl cw (.inl (.head _)) hP1
            | replace st := St.prs (b := c.rb) st 4 rfl cw (.inl (.head _)) hP1
            | replace st := St.prs (b := c.rb) st 5 rfl cw (.inl (.head _)) hP1
            | replace st := St.prs (b := c.rb) st 6 rfl cw (.inl (.head _)) hP1
            | replace st := St.prs (b := c.rb) st 7 rfl cw (.inl (.head _)) hP1
            | replace st := St.prs (b := c.rb) st 8 rfl cw (.inl (.head _)) hP1
            dsimp only [setNth] at st
            refine vc_y rfl rfl (y_as rfl) ?_
            refine vc_end ?_
            refine vq_then ?_
            refine vc_keep [(0, _), (1, _), (4, _), (5, _), (63, _)] ⟨rfl, rfl, rfl, rfl, rfl, trivial⟩ ?_
            refine vc_ifs rfl ?_ ?_
            · intro hc63
              try simp only [dn] at hc63
              have hT : takeB [40] σ = true := hc63
              have hti := (takeB_pos hT).2
              have hne := isT_ne hti
              have htl := tail_lt hne
              have hin : innerT σ.r = true := by unfold innerT; rw [hti]; simp
              have hm : ¬ 64 ≤ d := fun h => by rw [hin] at hb; simp [h] at hb
              obtain ⟨m, rfl⟩ : ∃ k, m = k + 1 := ⟨m - 1, by omega⟩
              have hlen := hn ho
              rw [takeR_pos hT] at st
              have hrt : (RS.mk σ.r.tail σ.f).r <:+ c.ts := (List.tail_suffix _).trans hr
              refine vc_seq ?_
              refine vc_region ?_
              refine vc_y rfl rfl (y_mv rfl) ?_
              refine vc_y rfl rfl (y_mv rfl) ?_
              refine vc_y rfl rfl (y_add rfl rfl (by omega : _ = ((d + 1 : Nat) : Int)) (by omega) (by omega)) ?_
              refine vc_e (e_call [_, _, _] rfl rfl Tryd.call32 rfl (hE σ.r.tail.length (by omega) m (d + 1) (by omega) 1 (by omega) (by omega) ⟨σ.r.tail, σ.f⟩ hrt (fun _ => Nat.le_refl _) _ (hC.k1 st.chg) (by exact st.res (i := 2) rfl)) ?_)
              rintro _ w ⟨x, σ2, hD, hsf, hP1, cw, ox, cx, Sx, rfl, hQ, hN⟩
              have hNSx := hN.le st.chg.size
              first
              | replace st := St.prsT (b := c.rb) st 0 rfl cw (.inl (.head _)) hP1 (holds_ex hQ) hN.2
              | replace st := St.prsT (b := c.rb) st 1 rfl cw (.inl (.head _)) hP1 (holds_ex hQ) hN.2
              | replace st := St.prsT (b := c.rb) st 2 rfl cw (.inl (.head _)) hP1 (holds_ex hQ) hN.2
              | replace st := St.prsT (b := c.rb) st 3 rfl cw (.inl (.head _)) hP1 (holds_ex hQ) hN.2
              | replace st := St.prsT (b := c.rb) st 4 rfl cw (.inl (.head _)) hP1 (holds_ex hQ) hN.2
              | replace st := St.prsT (b := c.rb) st 5 rfl cw (.inl (.head _)) hP1 (holds_ex hQ) hN.2
              | replace st := St.prsT (b := c.rb) st 6 rfl cw (.inl (.head _)) hP1 (holds_ex hQ) hN.2
              | replace st := St.prsT (b := c.rb) st 7 rfl cw (.inl (.head _)) hP1 (holds_ex hQ) hN.2
              | replace st := St.prsT (b := c.rb) st 8 rfl cw (.inl (.head _)) hP1 (holds_ex hQ) hN.2
              dsimp only [setNth] at st
              refine vc_e (e_al (l := [_, _, _, _, _, _]) st rfl rfl Tryd.zeroValue26 rfl ?_)
              intro b6 w hb6 st
              refine vc_e (e_sts (vs := [_, _, _, _, _, _]) st 0 rfl rfl rfl rfl rfl Tryd.sizeOf26 rfl rfl (by first | (right; assumption) | (left; simp)) ?_)
              intro w st; dsimp only [setNth, wr] at st
              refine vc_end ?_
              refine vq_then ?_
              refine vc_keep [(0, _), (4, _), (6, _)] ⟨rfl, rfl, rfl, trivial⟩ ?_
              refine vc_seq ?_
              refine vc_region ?_
              refine vc_y rfl rfl (y_mv rfl) ?_
              refine vc_e (e_call [_, _] rfl rfl Tryd.call85 rfl (rwant_any c [41] σ2 (hsf.trans hrt) _ (hC.k1 st.chg) (by exact st.res (i := 4) rfl)) ?_)
              rintro _ w ⟨rfl, hP1, cw⟩
              first
              | replace st := St.prs (b := c.rb) st 0 rfl cw (.inl (.head _)) hP1
              | replace st := St.prs (b := c.rb) st 1 rfl cw (.inl (.head _)) hP1
              | replace st := St.prs (b := c.rb) st 2 rfl cw (.inl (.head _)) hP1
              | replace st := St.prs (b := c.rb) st 3 rfl cw (.inl (.head _)) hP1
              | replace st := St.prs (b := c.rb) st 4 rfl cw (.inl (.head _)) hP1
              | replace st := St.prs (b := c.rb) st 5 rfl cw (.inl (.head _)) hP1
              | replace st := St.prs (b := c.rb) st 6 rfl cw (.inl (.head _)) hP1
              | replace st := St.prs (b := c.rb) st 7 rfl cw (.inl (.head _)) hP1
              | replace st := St.prs (b := c.rb) st 8 rfl cw (.inl (.head _)) hP1
              dsimp only [setNth] at st
              refine vc_end ?_
              refine vq_then ?_
              refine vc_keep [(4, _), (6, _)] ⟨rfl, rfl, trivial⟩ ?_
              refine vc_seq ?_
              refine vc_region ?_
              refine vc_y rfl rfl ((by exact y_lda (vs := [_, _, _, _, _, _]) st 0 rfl Tryd.isAgg26 Tryd.sizeOf26 rfl rfl)) ?_
              refine vc_e (e_sts (vs := [_, _, _, _, _, _]) st 3 rfl rfl rfl rfl rfl Tryd.sizeOf26 rfl rfl (by first | (right; assumption) | (left; simp)) ?_)
              intro w st; dsimp only [setNth, wr] at st
              refine vc_end ?_
              refine vq_then ?_
              refine vc_keep [(4, _)] ⟨rfl, trivial⟩ ?_
              refine vc_ret ?_
              refine vq_block_ret ?_
              refine vq_then_ret ?_
              refine vq_ret1 st (.inl rfl) Tryd.results63 (by exact .cell 3 rfl rfl Tryd.isAgg26 Tryd.sizeOf26) ?_
              refine ⟨_, rfl, ?_⟩
              exact ⟨x, wantR c.e [41] σ2, unary_par hT hD, wantR_suf.trans (hsf.trans (List.tail_suffix _)), (by exact st.res (i := 4) rfl), st.chg, ox, cx, Sx, rfl, (by exact (st.res (i := 1) rfl).1), hNSx⟩
            · intro hc63
              try simp only [dn] at hc63
              have hF40 : takeB [40] σ = false := hc63
              rw [takeR_neg hF40] at st
              refine vc_seq ?_
              refine vc_region ?_
              refine vc_y rfl rfl (y_mv rfl) ?_
              refine vc_e (e_call [_, _] rfl rfl Tryd.call84 rfl (rtake_any c [45] σ hr _ (hC.k1 st.chg) (by exact st.res (i := 2) rfl)) ?_)
              rintro _ w ⟨rfl, hP1, cw⟩
              first
              | replace st := St.prs (b := c.rb) st 0 rfl cw (.inl (.head _)) hP1
              | replace st := St.prs (b := c.rb) st 1 rfl cw (.inl (.head _)) hP1
              | replace st := St.prs (b := c.rb) st 2 rfl cw (.inl (.head _)) hP1
              | replace st := St.prs (b := c.rb) st 3 rfl cw (.inl (.head _)) hP1
              | replace st := St.prs (b := c.rb) st 4 rfl cw (.inl (.head _)) hP1
              | replace st := St.prs (b := c.rb) st 5 rfl cw (.inl (.head _)) hP1
              | replace st := St.prs (b := c.rb) st 6 rfl cw (.inl (.head _)) hP1
              | replace st := St.prs (b := c.rb) st 7 rfl cw (.inl (.head _)) hP1
              | replace st := St.prs (b := c.rb) st 8 rfl cw (.inl (.head _)) hP1
              dsimp only [setNth] at st
              refine vc_y rfl rfl (y_as rfl) ?_
              refine vc_end ?_
              refine vq_then ?_
              refine vc_keep [(0, _), (1, _), (4, _), (5, _), (73, _)] ⟨rfl, rfl, rfl, rfl, rfl, trivial⟩ ?_
              refine vc_ifs rfl ?_ ?_
              · intro hc73
                try simp only [dn] at hc73
                have hT : takeB [45] σ = true := hc73
                have hti := (takeB_pos hT).2
                have hne := isT_ne hti
                have htl := tail_lt hne
                have hin : innerT σ.r = true := by unfold innerT; rw [hti]; simp
                have hm : ¬ 64 ≤ d := fun h => by rw [hin] at hb; simp [h] at hb
                obtain ⟨m, rfl⟩ : ∃ k, m = k + 1 := ⟨m - 1, by omega⟩
                have hlen := hn ho
                rw [takeR_pos hT] at st
                have hrt : (RS.mk σ.r.tail σ.f).r <:+ c.ts := (List.tail_suffix _).trans hr
                refine vc_seq ?_
                refine vc_region ?_
                refine vc_y rfl rfl (y_mv rfl) ?_
                refine vc_y rfl rfl (y_mv rfl) ?_
                refine vc_y rfl rfl (y_add rfl rfl (by omega : _ = ((d + 1 : Nat) : Int)) (by omega) (by omega)) ?_
                refine vc_e (e_call [_, _] rfl rfl Tryd.call63 rfl (hU σ.r.tail.length (by omega) m (d + 1) (by omega) ⟨σ.r.tail, σ.f⟩ hrt (fun _ => Nat.le_refl _) _ (hC.k1 st.chg) (by exact st.res (i := 2) rfl)) ?_)
                rintro _ w ⟨x, σ2, hD, hsf, hP1, cw, ox, cx, Sx, rfl, hQ, hN⟩
                have hNSx := hN.le st.chg.size
                first
                | replace st := St.prsT (b := c.rb) st 0 rfl cw (.inl (.head _)) hP1 (holds_ex hQ) hN.2
                | replace st := St.prsT (b := c.rb) st 1 rfl cw (.inl (.head _)) hP1 (holds_ex hQ) hN.2
                | replace st := St.prsT (b := c.rb) st 2 rfl cw (.inl (.head _)) hP1 (holds_ex hQ) hN.2
                | replace st := St.prsT (b := c.rb) st 3 rfl cw (.inl (.head _)) hP1 (holds_ex hQ) hN.2
                | replace st := St.prsT (b := c.rb) st 4 rfl cw (.inl (.head _)) hP1 (holds_ex hQ) hN.2
                | replace st := St.prsT (b := c.rb) st 5 rfl cw (.inl (.head _)) hP1 (holds_ex hQ) hN.2
                | replace st := St.prsT (b := c.rb) st 6 rfl cw (.inl (.head _)) hP1 (holds_ex hQ) hN.2
                | replace st := St.prsT (b := c.rb) st 7 rfl cw (.inl (.head _)) hP1 (holds_ex hQ) hN.2
                | replace st := St.prsT (b := c.rb) st 8 rfl cw (.inl (.head _)) hP1 (holds_ex hQ) hN.2
                dsimp only [setNth] at st
                refine vc_e (e_al (l := [_, _, _, _, _, _]) st rfl rfl Tryd.zeroValue26 rfl ?_)
                intro b7 w hb7 st
                refine vc_e (e_sts (vs := [_, _, _, _, _, _]) st 0 rfl rfl rfl rfl rfl Tryd.sizeOf26 rfl rfl (by first | (right; assumption) | (left; simp)) ?_)
                intro w st; dsimp only [setNth, wr] at st
                refine vc_end ?_
                refine vq_then ?_
                refine vc_keep [(4, _), (5, _), (7, _)] ⟨rfl, rfl, rfl, trivial⟩ ?_
                refine vc_seq ?_
                refine vc_region ?_
                refine vc_y rfl rfl ((by exact y_lda (vs := [_, _, _, _, _, _]) st 0 rfl Tryd.isAgg26 Tryd.sizeOf26 rfl rfl)) ?_
                refine vc_e (e_bs1 (l := [_, _, _, _, _, _]) st rfl rfl rfl rfl Tryd.underlying24 Tryd.sizeOf26 rfl rfl rfl Tryd.zeroValue26 ?_)
                intro b81 w hb81 st
                refine vc_y rfl rfl ((by exact y_faz (k := 3) rfl Tryd.underlying53 rfl rfl Tryd.sizeOf3 rfl)) ?_
                refine vc_y rfl rfl ((by exact y_ld st 3 rfl Tryd.isAgg3 rfl rfl)) ?_
                refine vc_y rfl rfl (y_bld (.agg #[_, _, _, _, _, _]) [(0, _), (1, _), (4, _), (5, _)] rfl (fun w => by simp [Instr.build, go_sem] <;> repeat' constructor)) ?_
                refine vc_e (e_sts (vs := [_, _, _, _, _, _]) st 4 rfl rfl rfl rfl rfl Tryd.sizeOf26 rfl rfl (by first | (right; assumption) | (left; simp)) ?_)
                intro w st; dsimp only [setNth, wr] at st
                refine vc_end ?_
                refine vq_then ?_
                refine vc_keep [(4, _)] ⟨rfl, trivial⟩ ?_
                refine vc_ret ?_
                refine vq_block_ret ?_
                refine vq_then_ret ?_
                refine vq_ret1 st (.inl rfl) Tryd.results63 (by exact .cell 4 rfl rfl Tryd.isAgg26 Tryd.sizeOf26) ?_
                refine ⟨_, rfl, ?_⟩
                refine ⟨_, σ2, unary_sign (.inl ⟨rfl, rfl⟩) hT hD, hsf.trans (List.tail_suffix _), (by exact st.res (i := 5) rfl), st.chg, some ⟨b81, 0, none⟩, 1, b81 :: Sx, ?_, ex_one (st.res (i := 0) rfl) (by exact (st.res (i := 2) rfl).1), Nw.app (S := [b81]) ⟨by simp, by simpa using hb81⟩ hNSx (fun b hb hb' => (by exact st.ne (i := 0) (j := 2) (by decide) rfl rfl b hb hb'))⟩
                rw [hereE_cons hne]; rfl
              · intro hc73
                try simp only [dn] at hc73
                have hF45 : takeB [45] σ = false := hc73
                rw [takeR_neg hF45] at st
                refine vc_seq ?_
                refine vc_region ?_
                refine vc_y rfl rfl (y_mv rfl) ?_
                refine vc_e (e_call [_, _] rfl rfl Tryd.call84 rfl (rtake_any c [33] σ hr _ (hC.k1 st.chg) (by exact st.res (i := 2) rfl)) ?_)
                rintro _ w ⟨rfl, hP1, cw⟩
                first
                | replace st := St.prs (b := c.rb) st 0 rfl cw (.inl (.head _)) hP1
                | replace st := St.prs (b := c.rb) st 1 rfl cw (.inl (.head _)) hP1
                | replace st := St.prs (b := c.rb) st 2 rfl cw (.inl (.head _)) hP1
                | replace st := St.prs (b := c.rb) st 3 rfl cw (.inl (.head _)) hP1
                | replace st := St.prs (b := c.rb) st 4 rfl cw (.inl (.head _)) hP1
                | replace st := St.prs (b := c.rb) st 5 rfl cw (.inl (.head _)) hP1
                | replace st := St.prs (b := c.rb) st 6 rfl cw (.inl (.head _)) hP1
                | replace st := St.prs (b := c.rb) st 7 rfl cw (.inl (.head _)) hP1
                | replace st := St.prs (b := c.rb) st 8 rfl cw (.inl (.head _)) hP1
                dsimp only [setNth] at st
                refine vc_y rfl rfl (y_as rfl) ?_
                refine vc_end ?_
                refine vq_then ?_
                refine vc_keep [(0, _), (1, _), (4, _), (5, _), (85, _)] ⟨rfl, rfl, rfl, rfl, rfl, trivial⟩ ?_
                refine vc_ifs rfl ?_ ?_
                · intro hc85
                  try simp only [dn] at hc85
                  have hT : takeB [33] σ = true := hc85
                  have hti := (takeB_pos hT).2
                  have hne := isT_ne hti
                  have htl := tail_lt hne
                  have hin : innerT σ.r = true := by unfold innerT; rw [hti]; simp
                  have hm : ¬ 64 ≤ d := fun h => by rw [hin] at hb; simp [h] at hb
                  obtain ⟨m, rfl⟩ : ∃ k, m = k + 1 := ⟨m - 1, by omega⟩
                  have hlen := hn ho
                  rw [takeR_pos hT] at st
                  have hrt : (RS.mk σ.r.tail σ.f).r <:+ c.ts := (List.tail_suffix _).trans hr
                  refine vc_seq ?_
                  refine vc_region ?_
                  refine vc_y rfl rfl (y_mv rfl) ?_
                  refine vc_y rfl rfl (y_mv rfl) ?_
                  refine vc_y rfl rfl (y_add rfl rfl (by omega : _ = ((d + 1 : Nat) : Int)) (by omega) (by omega)) ?_
                  refine vc_e (e_call [_, _] rfl rfl Tryd.call63 rfl (hU σ.r.tail.length (by omega) m (d + 1) (by omega) ⟨σ.r.tail, σ.f⟩ hrt (fun _ => Nat.le_refl _) _ (hC.k1 st.chg) (by exact st.res (i := 2) rfl)) ?_)
                  rintro _ w ⟨x, σ2, hD, hsf, hP1, cw, ox, cx, Sx, rfl, hQ, hN⟩
                  have hNSx := hN.le st.chg.size
                  first
                  | replace st := St.prsT (b := c.rb) st 0 rfl cw (.inl (.head _)) hP1 (holds_ex hQ) hN.2
                  | replace st := St.prsT (b := c.rb) st 1 rfl cw (.inl (.head _)) hP1 (holds_ex hQ) hN.2
                  | replace st := St.prsT (b := c.rb) st 2 rfl cw (.inl (.head _)) hP1 (holds_ex hQ) hN.2
                  | replace st := St.prsT (b := c.rb) st 3 rfl cw (.inl (.head _)) hP1 (holds_ex hQ) hN.2
                  | replace st := St.prsT (b := c.rb) st 4 rfl cw (.inl (.head _)) hP1 (holds_ex hQ) hN.2
                  | replace st := St.prsT (b := c.rb) st 5 rfl cw (.inl (.head _)) hP1 (holds_ex hQ) hN.2
                  | replace st := St.prsT (b := c.rb) st 6 rfl cw (.inl (.head _)) hP1 (holds_ex hQ) hN.2
                  | replace st := St.prsT (b := c.rb) st 7 rfl cw (.inl (.head _)) hP1 (holds_ex hQ) hN.2
                  | replace st := St.prsT (b := c.rb) st 8 rfl cw (.inl (.head _)) hP1 (holds_ex hQ) hN.2
                  dsimp only [setNth] at st
                  refine vc_e (e_al (l := [_, _, _, _, _, _]) st rfl rfl Tryd.zeroValue26 rfl ?_)
                  intro b8 w hb8 st
                  refine vc_e (e_sts (vs := [_, _, _, _, _, _]) st 0 rfl rfl rfl rfl rfl Tryd.sizeOf26 rfl rfl (by first | (right; assumption) | (left; simp)) ?_)
                  intro w st; dsimp only [setNth, wr] at st
                  refine vc_end ?_
                  refine vq_then ?_
                  refine vc_keep [(4, _), (5, _), (8, _)] ⟨rfl, rfl, rfl, trivial⟩ ?_
                  refine vc_seq ?_
                  refine vc_region ?_
                  refine vc_y rfl rfl ((by exact y_lda (vs := [_, _, _, _, _, _]) st 0 rfl Tryd.isAgg26 Tryd.sizeOf26 rfl rfl)) ?_
                  refine vc_e (e_bs1 (l := [_, _, _, _, _, _]) st rfl rfl rfl rfl Tryd.underlying24 Tryd.sizeOf26 rfl rfl rfl Tryd.zeroValue26 ?_)
                  intro b93 w hb93 st
                  refine vc_y rfl rfl ((by exact y_faz (k := 3) rfl Tryd.underlying53 rfl rfl Tryd.sizeOf3 rfl)) ?_
                  refine vc_y rfl rfl ((by exact y_ld st 3 rfl Tryd.isAgg3 rfl rfl)) ?_
                  refine vc_y rfl rfl (y_bld (.agg #[_, _, _, _, _, _]) [(0, _), (1, _), (4, _), (5, _)] rfl (fun w => by simp [Instr.build, go_sem] <;> repeat' constructor)) ?_
                  refine vc_e (e_sts (vs := [_, _, _, _, _, _]) st 4 rfl rfl rfl rfl rfl Tryd.sizeOf26 rfl rfl (by first | (right; assumption) | (left; simp)) ?_)
                  intro w st; dsimp only [setNth, wr] at st
                  refine vc_end ?_
                  refine vq_then ?_
                  refine vc_keep [(4, _)] ⟨rfl, trivial⟩ ?_
                  refine vc_ret ?_
                  refine vq_block_ret ?_
                  refine vq_then_ret ?_
                  refine vq_ret1 st (.inl rfl) Tryd.results63 (by exact .cell 4 rfl rfl Tryd.isAgg26 Tryd.sizeOf26) ?_
                  refine ⟨_, rfl, ?_⟩
                  refine ⟨_, σ2, unary_sign (.inr ⟨rfl, rfl⟩) hT hD, hsf.trans (List.tail_suffix _), (by exact st.res (i := 5) rfl), st.chg, some ⟨b93, 0, none⟩, 1, b93 :: Sx, ?_, ex_one (st.res (i := 0) rfl) (by exact (st.res (i := 2) rfl).1), Nw.app (S := [b93]) ⟨by simp, by simpa using hb93⟩ hNSx (fun b hb hb' => (by exact st.ne (i := 0) (j := 2) (by decide) rfl rfl b hb hb'))⟩
                  rw [hereE_cons hne]; rfl
                · intro hc85
                  try simp only [dn] at hc85
                  have hF33 : takeB [33] σ = false := hc85
                  rw [takeR_neg hF33] at st
                  have hin : innerT σ.r = false := by unfold innerT; rw [← takeB_ok ho, ← takeB_ok ho, ← takeB_ok ho, hF40, hF45, hF33]; rfl
                  refine vc_code_skip ?_
                  refine vq_block ?_
                  refine vq_then ?_
                  refine vc_keep [(0, _), (4, _)] ⟨rfl, rfl, trivial⟩ ?_
                  refine vc_seq ?_
                  refine vc_region ?_
                  refine vc_y rfl rfl (y_mv rfl) ?_
                  refine vc_e (e_call [_, _] rfl rfl Tryd.call34 rfl (rfail_any c 2 σ hr _ (hC.k1 st.chg) (by exact st.res (i := 2) rfl)) ?_)
                  rintro _ w ⟨rfl, hP1, cw⟩
                  first
                  | replace st := St.prs (b := c.rb) st 0 rfl cw (.inl (.head _)) hP1
                  | replace st := St.prs (b := c.rb) st 1 rfl cw (.inl (.head _)) hP1
                  | replace st := St.prs (b := c.rb) st 2 rfl cw (.inl (.head _)) hP1
                  | replace st := St.prs (b := c.rb) st 3 rfl cw (.inl (.head _)) hP1
                  | replace st := St.prs (b := c.rb) st 4 rfl cw (.inl (.head _)) hP1
                  | replace st := St.prs (b := c.rb) st 5 rfl cw (.inl (.head _)) hP1
                  | replace st := St.prs (b := c.rb) st 6 rfl cw (.inl (.head _)) hP1
                  | replace st := St.prs (b := c.rb) st 7 rfl cw (.inl (.head _)) hP1
                  | replace st := St.prs (b := c.rb) st 8 rfl cw (.inl (.head _)) hP1
                  dsimp only [setNth] at st
                  refine vc_end ?_
                  refine vq_then ?_
                  refine vc_keep [(4, _)] ⟨rfl, trivial⟩ ?_
                  refine vc_seq ?_
                  refine vc_region ?_
                  refine vc_y rfl rfl (y_bld (.agg #[_, _, _, _, _, _]) [] rfl (fun w => by simp [Instr.build, go_sem] <;> repeat' constructor)) ?_
                  refine vc_e (e_sts (vs := [_, _, _, _, _, _]) st 1 rfl rfl rfl rfl rfl Tryd.sizeOf26 rfl rfl (by first | (right; assumption) | (left; simp)) ?_)
                  intro w st; dsimp only [setNth, wr] at st
                  refine vc_end ?_
                  refine vq_then ?_
                  refine vc_keep [(4, _)] ⟨rfl, trivial⟩ ?_
                  refine vc_ret ?_
                  refine vq_ret1 st (.inl rfl) Tryd.results63 (by exact .cell 1 rfl rfl Tryd.isAgg26 Tryd.sizeOf26) ?_
                  refine ⟨_, rfl, ?_⟩
                  exact ⟨ex0, failR c.e 2 σ, unary_none hin hk3 hk1 ex0, by rw [failR_r]; exact List.suffix_refl _, (by exact st.res (i := 2) rfl), st.chg, none, 0, [], rfl, exr_nil, Nw.nil⟩

set_option maxHeartbeats 1000000 in
theorem rexpr_of (c : RCtx) (n : Nat) (hU : UR c n) (hE : ∀ k, k < n → ER c k) : ER c n := by
  intro m d hd lv hlv0 hlv1 σ hr hn w hC hP
  refine ret_of [_, _, _] Tryd.func32 rfl Tryd.ntmps32 rfl ?_
  
  obtain ⟨w0, rfl⟩ : ∃ w0, w0 = w := ⟨_, rfl⟩
  have hP' := hP
  dsimp only [RAt, rcell] at hP
  have st := St.of1 [c.rb] hP
  have h20 := hC.len
  have hl := suf_len hr
  refine vc_seq ?_
  refine vc_region ?_
  refine vc_e (e_al (l := [_, _, _, _, _, _]) st rfl rfl Tryd.zeroValue26 rfl ?_)
  intro b6 w hb6 st
  refine vc_end ?_
  refine vq_then ?_
  refine vc_keep [(0, _), (1, _), (2, _), (6, _)] ⟨rfl, rfl, rfl, rfl, trivial⟩ ?_
  refine vc_seq ?_
  refine vc_region ?_
  refine vc_y rfl rfl (y_mv rfl) ?_
  refine vc_y rfl rfl (y_mv rfl) ?_
  refine vc_e (e_call [_, _] rfl rfl Tryd.call63 rfl (hU m d hd σ hr hn _ (hC.k1 st.chg) (by exact st.res (i := 1) rfl)) ?_)
  rintro _ w ⟨x0, σ0, hD, hsf, hP1, cw, ox0, cx0, Sx0, rfl, hQ, hN⟩
  have hNSx0 := hN.le st.chg.size
  first
  | replace st := St.prsT (b := c.rb) st 0 rfl cw (.inl (.head _)) hP1 (holds_ex hQ) hN.2
  | replace st := St.prsT (b := c.rb) st 1 rfl cw (.inl (.head _)) hP1 (holds_ex hQ) hN.2
  | replace st := St.prsT (b := c.rb) st 2 rfl cw (.inl (.head _)) hP1 (holds_ex hQ) hN.2
  | replace st := St.prsT (b := c.rb) st 3 rfl cw (.inl (.head _)) hP1 (holds_ex hQ) hN.2
  | replace st := St.prsT (b := c.rb) st 4 rfl cw (.inl (.head _)) hP1 (holds_ex hQ) hN.2
  | replace st := St.prsT (b := c.rb) st 5 rfl cw (.inl (.head _)) hP1 (holds_ex hQ) hN.2
  | replace st := St.prsT (b := c.rb) st 6 rfl cw (.inl (.head _)) hP1 (holds_ex hQ) hN.2
  | replace st := St.prsT (b := c.rb) st 7 rfl cw (.inl (.head _)) hP1 (holds_ex hQ) hN.2
  | replace st := St.prsT (b := c.rb) st 8 rfl cw (.inl (.head _)) hP1 (holds_ex hQ) hN.2
  dsimp only [setNth] at st
  have hlen0 : σ0.ok → σ0.r.length < σ.r.length := fun ho => by
    obtain ⟨a1, a2⟩ := hD.ok_inv ho
    exact unary_goes _ _ _ _ _ a2
  have hok0 : σ0.ok → σ.ok := fun ho => (hD.ok_inv ho).1
  have hG0 := climb_start (lv := lv) hD
  refine vc_e (e_al (l := [_, _, _, _, _, _]) st rfl rfl Tryd.zeroValue26 rfl ?_)
  intro b7 w hb7 st
  refine vc_e (e_sts (vs := [_, _, _, _, _, _]) st 0 rfl rfl rfl rfl rfl Tryd.sizeOf26 rfl rfl (by first | (right; assumption) | (left; simp)) ?_)
  intro w st; dsimp only [setNth, wr] at st
  refine vc_end ?_
  refine vq_then ?_
  refine vc_keep [(0, _), (1, _), (2, _), (6, _), (7, _)] ⟨rfl, rfl, rfl, rfl, rfl, trivial⟩ ?_
  refine vc_seq ?_
  refine vc_block ?_
  refine vc_loop (w0 := w0) (M := [c.rb]) (fun (y : RSt) => [(0, .pointer (some ⟨c.rb, 0, none⟩)), (1, .int .i64 lv), (2, .int .i64 (d : Int)), (6, .pointer (some ⟨b6, 0, none⟩)), (7, .pointer (some ⟨b7, 0, none⟩))]) (fun (y : RSt) => [.blk b7 (.cells (exC y.x y.ox y.cx).toArray 26 (0, 0)), .tree y.Sx (fun w => ExR 26 w y.ox y.cx y.x.kids y.Sx), .blk b6 (.cells ex00.toArray 26 (0, 0)), .blk c.rb (.cells (rcell c y.σ).toArray c.T (0, 0))]) (fun (y : RSt) _ => y.σ.r <:+ σ.r ∧ (y.σ.ok → y.σ.r.length < n) ∧ y.σ.r.length < y.k ∧ Nw w0.heap.size y.Sx ∧ run (climbE (unaryP c.e m) lv) σ = run (loopE (unaryP c.e m) y.k lv y.x) y.σ) (fun (y : RSt) => y.σ.r.length) ⟨x0, σ0, σ0.r.length + 1, ox0, cx0, Sx0⟩ ⟨rfl, rfl, rfl, rfl, rfl, trivial⟩ (st.pick [0, 1, 2, 3] rfl (by decide)) ⟨hsf, fun ho => by have := hlen0 ho; have := hn (hok0 ho); dsimp only; omega, by dsimp only; omega, hNSx0, hG0⟩ ?_
  clear st hD hG0 hlen0 hok0 hsf hP1
  rintro ⟨x, σ1, k, ox, cx, Sx⟩ w ⟨hsf1, hlt1, hk1, hSx, hG⟩ st
  dsimp only at hsf1 hlt1 hk1 hSx hG st
  have hr1 := hsf1.trans hr
  obtain ⟨k, rfl⟩ : ∃ j, k = j + 1 := ⟨k - 1, by omega⟩
  refine vc_seq ?_
  refine vc_seq ?_
  refine vc_region ?_
  refine vc_y rfl rfl (y_mv rfl) ?_
  refine vc_e (e_call [_] rfl rfl Tryd.call33 rfl (rok_any c σ1 hr1 _ (hC.k1 st.chg) (by exact st.res (i := 3) rfl)) ?_)
  rintro _ w ⟨rfl, cw⟩
  replace st := st.call0 cw
  refine vc_end ?_
  refine vq_then ?_
  refine vc_keep [(0, _), (1, _), (2, _), (6, _), (7, _), (16, _)] ⟨rfl, rfl, rfl, rfl, rfl, rfl, trivial⟩ ?_
  refine vc_ifs rfl ?_ ?_
  · intro hc16
    try simp only [dn] at hc16
    have ho : σ1.ok := by simpa using hc16
    have hl1 := suf_len hr1
    refine vc_code_skip ?_
    refine vq_then ?_
    refine vc_keep [(0, _), (1, _), (2, _), (6, _), (7, _)] ⟨rfl, rfl, rfl, rfl, rfl, trivial⟩ ?_
    refine vc_block ?_
    refine vc_seq ?_
    refine vc_region ?_
    refine vc_y rfl rfl (y_mv rfl) ?_
    refine vc_e (e_call [_] rfl rfl Tryd.call64 rfl (rhere_any c σ1 hr1 _ (hC.k1 st.chg) (by exact st.res (i := 3) rfl)) ?_)
    rintro _ w ⟨rfl, cw⟩
    replace st := st.call0 cw
    refine vc_e (e_al (l := [_, _, _, _]) st rfl rfl Tryd.zeroValue53 rfl ?_)
    intro b8 w hb8 st
    refine vc_e (e_sts (vs := [_, _, _, _]) st 0 rfl rfl rfl rfl rfl Tryd.sizeOf53 rfl rfl (by first | (right; assumption) | (left; simp)) ?_)
    intro w st; dsimp only [setNth, wr] at st
    refine vc_end ?_
    refine vq_then ?_
    refine vc_keep [(0, _), (1, _), (2, _), (6, _), (7, _), (8, _)] ⟨rfl, rfl, rfl, rfl, rfl, rfl, trivial⟩ ?_
    refine vc_seq ?_
    refine vc_region ?_
    refine vc_y rfl rfl ((by exact y_faz (k := 1) rfl Tryd.underlying53 rfl rfl Tryd.sizeOf9 rfl)) ?_
    refine vc_y rfl rfl ((by exact y_ld st 0 rfl Tryd.isAgg9 rfl rfl)) ?_
    refine vc_e (e_call [_] rfl rfl Tryd.call65 rfl (rfind_any (hereE c.e σ1.r).text _) ?_)
    rintro _ w ⟨rfl, cw⟩
    replace st := st.call0 cw
    refine vc_y rfl rfl (y_mv rfl) ?_
    refine vc_y rfl rfl (y_ext rfl rfl) ?_
    refine vc_y rfl rfl (y_ext rfl rfl) ?_
    refine vc_y rfl rfl (y_as rfl) ?_
    refine vc_y rfl rfl (y_as rfl) ?_
    refine vc_end ?_
    refine vq_then ?_
    refine vc_keep [(0, _), (1, _), (2, _), (6, _), (7, _), (8, _), (9, _), (10, _)] ⟨rfl, rfl, rfl, rfl, rfl, rfl, rfl, rfl, trivial⟩ ?_
    refine vc_seq ?_
    refine vc_seq ?_
    refine vc_region ?_
    refine vc_y rfl rfl (y_fa0 rfl Tryd.underlying53 rfl rfl Tryd.sizeOf51 rfl) ?_
    refine vc_y rfl rfl ((by exact y_ld st 0 rfl Tryd.isAgg51 rfl rfl)) ?_
    refine vc_y rfl rfl (y_nei rfl rfl) ?_
    refine vc_e (e_mvb rfl rfl rfl ?_ ?_)
    · intro hg28
      try simp only [dn] at hg28
      refine vc_e (e_skip rfl rfl ?_)
      refine vc_e (e_skip rfl rfl ?_)
      refine vc_y rfl rfl (y_pickt rfl rfl) ?_
      refine vc_y rfl rfl (y_mv rfl) ?_
      refine vc_e (e_skip rfl rfl ?_)
      refine vc_e (e_skip rfl rfl ?_)
      refine vc_e (e_skip rfl rfl ?_)
      refine vc_e (e_skip rfl rfl ?_)
      refine vc_y rfl rfl (y_pickt rfl rfl) ?_
      refine vc_end ?_
      refine vq_then ?_
      refine vc_keep [(0, _), (1, _), (2, _), (6, _), (7, _), (8, _), (9, _), (37, _)] ⟨rfl, rfl, rfl, rfl, rfl, rfl, rfl, rfl, trivial⟩ ?_
      refine vc_ift rfl ?_
      refine vc_exit ?_
      refine vq_then_exit ?_
      refine vq_block_other rfl ?_
      refine vq_then_exit ?_
      refine vq_block_exit ?_
      refine vq_then ?_
      refine vc_keep [(6, _), (7, _)] ⟨rfl, rfl, trivial⟩ ?_
      refine vc_seq ?_
      refine vc_region ?_
      refine vc_y rfl rfl ((by exact y_lda (vs := [_, _, _, _, _, _]) st 1 rfl Tryd.isAgg26 Tryd.sizeOf26 rfl rfl)) ?_
      refine vc_e (e_sts (vs := [_, _, _, _, _, _]) st 3 rfl rfl rfl rfl rfl Tryd.sizeOf26 rfl rfl (by first | (right; assumption) | (left; simp)) ?_)
      intro w st; dsimp only [setNth, wr] at st
      refine vc_end ?_
      refine vq_then ?_
      refine vc_keep [(6, _)] ⟨rfl, trivial⟩ ?_
      refine vc_ret ?_
      refine vq_ret1 st (.inl rfl) Tryd.results32 (by exact .cell 3 rfl rfl Tryd.isAgg26 Tryd.sizeOf26) ?_
      refine ⟨_, rfl, ?_⟩
      refine ⟨x, σ1, ?_, hsf1, (by exact st.res (i := 4) rfl), st.chg, ox, cx, Sx, rfl, (by exact (st.res (i := 2) rfl).1), hSx⟩
      rw [hG]
      refine loop_end fun o hop => ?_
      rw [hereE_text, hereE_kind] at *
      unfold opT at hop
      split at hop
      · rename_i hk4; exact absurd hk4 (by omega)
      · cases hop
    · intro hg28
      try simp only [dn] at hg28
      refine vc_y rfl rfl (y_mv rfl) ?_
      refine vc_y rfl rfl (y_not rfl) ?_
      refine vc_y rfl rfl (y_pickf rfl rfl) ?_
      refine vc_e (e_mvb rfl rfl rfl ?_ ?_)
      · intro hg32
        try simp only [dn] at hg32
        refine vc_e (e_skip rfl rfl ?_)
        refine vc_e (e_skip rfl rfl ?_)
        refine vc_e (e_skip rfl rfl ?_)
        refine vc_e (e_skip rfl rfl ?_)
        refine vc_y rfl rfl (y_pickt rfl rfl) ?_
        refine vc_end ?_
        refine vq_then ?_
        refine vc_keep [(0, _), (1, _), (2, _), (6, _), (7, _), (8, _), (9, _), (37, _)] ⟨rfl, rfl, rfl, rfl, rfl, rfl, rfl, rfl, trivial⟩ ?_
        refine vc_ift rfl ?_
        refine vc_exit ?_
        refine vq_then_exit ?_
        refine vq_block_other rfl ?_
        refine vq_then_exit ?_
        refine vq_block_exit ?_
        refine vq_then ?_
        refine vc_keep [(6, _), (7, _)] ⟨rfl, rfl, trivial⟩ ?_
        refine vc_seq ?_
        refine vc_region ?_
        refine vc_y rfl rfl ((by exact y_lda (vs := [_, _, _, _, _, _]) st 1 rfl Tryd.isAgg26 Tryd.sizeOf26 rfl rfl)) ?_
        refine vc_e (e_sts (vs := [_, _, _, _, _, _]) st 3 rfl rfl rfl rfl rfl Tryd.sizeOf26 rfl rfl (by first | (right; assumption) | (left; simp)) ?_)
        intro w st; dsimp only [setNth, wr] at st
        refine vc_end ?_
        refine vq_then ?_
        refine vc_keep [(6, _)] ⟨rfl, trivial⟩ ?_
        refine vc_ret ?_
        refine vq_ret1 st (.inl rfl) Tryd.results32 (by exact .cell 3 rfl rfl Tryd.isAgg26 Tryd.sizeOf26) ?_
        refine ⟨_, rfl, ?_⟩
        refine ⟨x, σ1, ?_, hsf1, (by exact st.res (i := 4) rfl), st.chg, ox, cx, Sx, rfl, (by exact (st.res (i := 2) rfl).1), hSx⟩
        rw [hG]
        refine loop_end fun o hop => ?_
        rw [hereE_text, hereE_kind] at *
        unfold opT at hop
        split at hop
        · rw [hop] at hg32; cases hg32
        · cases hop
      · intro hg32
        try simp only [dn] at hg32
        refine vc_y rfl rfl (y_mv rfl) ?_
        refine vc_e (e_call [_] rfl rfl Tryd.call66 rfl (rlevel_any (((findO (hereE c.e σ1.r).text).getD 0) : Nat) (by omega) _) ?_)
        rintro _ w ⟨rfl, cw⟩
        replace st := st.call0 cw
        have hl9 := lvlO_le ((findO (hereE c.e σ1.r).text).getD 0)
        have hl0 := lvlO_ge ((findO (hereE c.e σ1.r).text).getD 0)
        refine vc_y rfl rfl (y_mv rfl) ?_
        refine vc_y rfl rfl (y_lss rfl rfl) ?_
        refine vc_y rfl rfl (y_pickf rfl rfl) ?_
        refine vc_end ?_
        refine vq_then ?_
        refine vc_keep [(0, _), (1, _), (2, _), (6, _), (7, _), (8, _), (9, _), (37, _)] ⟨rfl, rfl, rfl, rfl, rfl, rfl, rfl, rfl, trivial⟩ ?_
        refine vc_ifs rfl ?_ ?_
        · intro hc37
          try simp only [dn] at hc37
          refine vc_exit ?_
          refine vq_then_exit ?_
          refine vq_block_other rfl ?_
          refine vq_then_exit ?_
          refine vq_block_exit ?_
          refine vq_then ?_
          refine vc_keep [(6, _), (7, _)] ⟨rfl, rfl, trivial⟩ ?_
          refine vc_seq ?_
          refine vc_region ?_
          refine vc_y rfl rfl ((by exact y_lda (vs := [_, _, _, _, _, _]) st 1 rfl Tryd.isAgg26 Tryd.sizeOf26 rfl rfl)) ?_
          refine vc_e (e_sts (vs := [_, _, _, _, _, _]) st 3 rfl rfl rfl rfl rfl Tryd.sizeOf26 rfl rfl (by first | (right; assumption) | (left; simp)) ?_)
          intro w st; dsimp only [setNth, wr] at st
          refine vc_end ?_
          refine vq_then ?_
          refine vc_keep [(6, _)] ⟨rfl, trivial⟩ ?_
          refine vc_ret ?_
          refine vq_ret1 st (.inl rfl) Tryd.results32 (by exact .cell 3 rfl rfl Tryd.isAgg26 Tryd.sizeOf26) ?_
          refine ⟨_, rfl, ?_⟩
          refine ⟨x, σ1, ?_, hsf1, (by exact st.res (i := 4) rfl), st.chg, ox, cx, Sx, rfl, (by exact (st.res (i := 2) rfl).1), hSx⟩
          rw [hG]
          refine loop_end fun o hop => ?_
          rw [hereE_text, hereE_kind] at *
          unfold opT at hop
          split at hop
          · rw [hop] at hc37; exact hc37
          · cases hop
        · intro hc37
          try simp only [dn] at hc37
          have hop : opT (here σ1.r) = some ((findO (hereE c.e σ1.r).text).getD 0) := by
            have hk4 : (here σ1.r).kind = 4 := by rw [hereE_kind] at *; omega
            unfold opT
            rw [if_pos hk4]
            cases hf : findO (here σ1.r).text with
            | none => rw [hereE_text] at *; simp [hf] at *
            | some o => rw [hereE_text, hf]; rfl
          have hne1 := opT_ne hop
          have htl1 := tail_lt hne1
          have ht2 : σ1.r.tail.length = σ1.r.length - 1 := List.length_tail
          have hlvl : lv ≤ lvlO (((findO (hereE c.e σ1.r).text).getD 0) : Nat) := by omega
          refine vc_code_skip ?_
          refine vq_then ?_
          refine vc_keep [(0, _), (1, _), (2, _), (6, _), (7, _), (8, _), (9, _)] ⟨rfl, rfl, rfl, rfl, rfl, rfl, rfl, trivial⟩ ?_
          refine vc_seq ?_
          refine vc_region ?_
          refine vc_y rfl rfl (y_mv rfl) ?_
          refine vc_y rfl rfl (y_nck rfl) ?_
          refine vc_y rfl rfl ((by exact y_faz (k := 1) rfl Tryd.underlying75 rfl rfl Tryd.sizeOf3 rfl)) ?_
          refine vc_y rfl rfl ((by exact y_ld st 4 rfl Tryd.isAgg3 rfl rfl)) ?_
          refine vc_y rfl rfl (y_add rfl rfl (by omega : _ = ((c.ts.length - σ1.r.tail.length : Nat) : Int)) (by omega) (by omega)) ?_
          refine vc_y rfl rfl (y_nck rfl) ?_
          refine vc_y rfl rfl ((by exact y_faz (k := 1) rfl Tryd.underlying75 rfl rfl Tryd.sizeOf3 rfl)) ?_
          refine vc_e (e_st st 4 rfl rfl rfl rfl Tryd.sizeOf3 rfl rfl (by first | (right; assumption) | (left; simp)) ?_)
          intro w st; dsimp only [setNth, wr] at st
          refine vc_end ?_
          refine vq_then ?_
          refine vc_keep [(0, _), (1, _), (2, _), (6, _), (7, _), (8, _), (9, _)] ⟨rfl, rfl, rfl, rfl, rfl, rfl, rfl, trivial⟩ ?_
          refine vc_seq ?_
          refine vc_region ?_
          refine vc_y rfl rfl (y_mv rfl) ?_
          refine vc_y rfl rfl (y_mv rfl) ?_
          refine vc_e (e_call [_] rfl rfl Tryd.call66 rfl (rlevel_any (((findO (hereE c.e σ1.r).text).getD 0) : Nat) (by omega) _) ?_)
          rintro _ w ⟨rfl, cw⟩
          replace st := st.call0 cw
          have hl9 := lvlO_le ((findO (hereE c.e σ1.r).text).getD 0)
          have hl0 := lvlO_ge ((findO (hereE c.e σ1.r).text).getD 0)
          refine vc_y rfl rfl (y_add rfl rfl rfl (by omega) (by omega)) ?_
          refine vc_y rfl rfl (y_mv rfl) ?_
          refine vc_e (e_call [_, _, _] rfl rfl Tryd.call32 rfl (hE σ1.r.length (hlt1 ho) m d hd (lvlO (((findO (hereE c.e σ1.r).text).getD 0) : Nat) + 1) (by omega) (by omega) ⟨σ1.r.tail, σ1.f⟩ ((List.tail_suffix _).trans hr1) (fun _ => by dsimp only; omega) _ (hC.k1 st.chg) (by exact st.res (i := 4) rfl)) ?_)
          rintro _ w ⟨z, σ2, hD, hsf, hP1, cw, oz, cz, Sz, rfl, hQ, hN⟩
          have hNSz := hN.le st.chg.size
          first
          | replace st := St.prsT (b := c.rb) st 0 rfl cw (.inl (.head _)) hP1 (holds_ex hQ) hN.2
          | replace st := St.prsT (b := c.rb) st 1 rfl cw (.inl (.head _)) hP1 (holds_ex hQ) hN.2
          | replace st := St.prsT (b := c.rb) st 2 rfl cw (.inl (.head _)) hP1 (holds_ex hQ) hN.2
          | replace st := St.prsT (b := c.rb) st 3 rfl cw (.inl (.head _)) hP1 (holds_ex hQ) hN.2
          | replace st := St.prsT (b := c.rb) st 4 rfl cw (.inl (.head _)) hP1 (holds_ex hQ) hN.2
          | replace st := St.prsT (b := c.rb) st 5 rfl cw (.inl (.head _)) hP1 (holds_ex hQ) hN.2
          | replace st := St.prsT (b := c.rb) st 6 rfl cw (.inl (.head _)) hP1 (holds_ex hQ) hN.2
          | replace st := St.prsT (b := c.rb) st 7 rfl cw (.inl (.head _)) hP1 (holds_ex hQ) hN.2
          | replace st := St.prsT (b := c.rb) st 8 rfl cw (.inl (.head _)) hP1 (holds_ex hQ) hN.2
          dsimp only [setNth] at st
          refine vc_e (e_al (l := [_, _, _, _, _, _]) st rfl rfl Tryd.zeroValue26 rfl ?_)
          intro b11 w hb11 st
          refine vc_e (e_sts (vs := [_, _, _, _, _, _]) st 0 rfl rfl rfl rfl rfl Tryd.sizeOf26 rfl rfl (by first | (right; assumption) | (left; simp)) ?_)
          intro w st; dsimp only [setNth, wr] at st
          refine vc_end ?_
          refine vq_then ?_
          refine vc_keep [(0, _), (1, _), (2, _), (6, _), (7, _), (8, _), (9, _), (11, _)] ⟨rfl, rfl, rfl, rfl, rfl, rfl, rfl, rfl, trivial⟩ ?_
          refine vc_region ?_
          refine vc_y rfl rfl (y_mv rfl) ?_
          refine vc_y rfl rfl ((by exact y_lda (vs := [_, _, _, _, _, _]) st 3 rfl Tryd.isAgg26 Tryd.sizeOf26 rfl rfl)) ?_
          refine vc_y rfl rfl ((by exact y_lda (vs := [_, _, _, _, _, _]) st 0 rfl Tryd.isAgg26 Tryd.sizeOf26 rfl rfl)) ?_
          refine vc_e (e_bsn (l := exC x ox cx ++ exC z oz cz) (E := 26) st [(0, _), (1, _)] rfl rfl rfl (fun w => by simp [Instr.buildSlice, run_underlying Tryd.underlying24, Tryd.sizeOf26, Tryd.zeroValue26, Instr.fill, newRow, newObj, Sem.run, go_sem, Value.cells]) ?_)
          intro b54 w hb54 st
          refine vc_y rfl rfl ((by exact y_faz (k := 3) rfl Tryd.underlying53 rfl rfl Tryd.sizeOf3 rfl)) ?_
          refine vc_y rfl rfl ((by exact y_ld st 3 rfl Tryd.isAgg3 rfl rfl)) ?_
          refine vc_y rfl rfl (y_bld (.agg #[_, _, _, _, _, _]) [(0, _), (1, _), (4, _), (5, _)] rfl (fun w => by simp [Instr.build, go_sem] <;> repeat' constructor)) ?_
          refine vc_e (e_sts (vs := [_, _, _, _, _, _]) st 4 rfl rfl rfl rfl rfl Tryd.sizeOf26 rfl rfl (by first | (right; assumption) | (left; simp)) ?_)
          intro w st; dsimp only [setNth, wr] at st
          refine vc_end ?_
          refine vq_block ?_
          refine vq_again ⟨binE ((findO (hereE c.e σ1.r).text).getD 0) (hereE c.e σ1.r).at_ x z, σ2, k, some ⟨b54, 0, none⟩, 2, b54 :: (Sx ++ Sz)⟩  ⟨rfl, rfl, rfl, rfl, rfl, trivial⟩ (by
            have hE2 := ex_two (st.res (i := 0) rfl) (st.res (i := 5) rfl).1 (st.res (i := 2) rfl).1
            exact (((st.pick [0, 5, 2, 4, 6, 7] rfl (by decide)).joinN 3 (q := .tree (b54 :: (Sx ++ Sz)) fun w => ExR 26 w (some ⟨b54, 0, none⟩) 2 [x, z] (b54 :: (Sx ++ Sz))) (fun k hk => by
              rcases List.mem_cons.1 hk with rfl | hk
              · exact ⟨_, .head _, .head _⟩
              · rcases List.mem_append.1 hk with h | h
                · exact ⟨_, .tail _ (.head _), h⟩
                · exact ⟨_, .tail _ (.tail _ (.head _)), h⟩) (holds_ex hE2))).pick [1, 0, 2, 3] rfl (by decide)) ?_ ?_
          · refine ⟨hsf.trans ((List.tail_suffix _).trans hsf1), fun ho2 => by have := hlt1 ho; have := suf_len hsf; dsimp only at *; omega, by have := suf_len hsf; dsimp only at *; omega, ?_, ?_⟩
            · refine Nw.app (S := [b54]) ⟨by simp, by simpa using hb54⟩ (hSx.app hNSz (st.ne (i := 5) (j := 2) (by decide) rfl rfl)) (fun b hb hb' => ?_)
              rcases List.mem_append.1 hb' with h | h
              · exact st.ne (i := 0) (j := 5) (by decide) rfl rfl b hb h
              · exact st.ne (i := 0) (j := 2) (by decide) rfl rfl b hb h
            · rw [hG, hereE_cons hne1]
              rw [hereE_cons hne1] at hop hlvl hD
              exact loop_step (unary_goes c.e m) ho hop hlvl hk1 hD
          · have := suf_len hsf; dsimp only at *; omega
  · intro hc16
    try simp only [dn] at hc16
    have ho : ¬ σ1.ok := by simpa using hc16
    refine vc_exit ?_
    refine vq_then_exit ?_
    refine vq_then_exit ?_
    refine vq_block_exit ?_
    refine vq_then ?_
    refine vc_keep [(6, _), (7, _)] ⟨rfl, rfl, trivial⟩ ?_
    refine vc_seq ?_
    refine vc_region ?_
    refine vc_y rfl rfl ((by exact y_lda (vs := [_, _, _, _, _, _]) st 0 rfl Tryd.isAgg26 Tryd.sizeOf26 rfl rfl)) ?_
    refine vc_e (e_sts (vs := [_, _, _, _, _, _]) st 2 rfl rfl rfl rfl rfl Tryd.sizeOf26 rfl rfl (by first | (right; assumption) | (left; simp)) ?_)
    intro w st; dsimp only [setNth, wr] at st
    refine vc_end ?_
    refine vq_then ?_
    refine vc_keep [(6, _)] ⟨rfl, trivial⟩ ?_
    refine vc_ret ?_
    refine vq_ret1 st (.inl rfl) Tryd.results32 (by exact .cell 2 rfl rfl Tryd.isAgg26 Tryd.sizeOf26) ?_
    refine ⟨_, rfl, ?_⟩
    exact ⟨x, σ1, by rw [hG]; exact .bad ho x, hsf1, (by exact st.res (i := 3) rfl), st.chg, ox, cx, Sx, rfl, (by exact (st.res (i := 1) rfl).1), hSx⟩

theorem reader_any (c : RCtx) : ∀ n, UR c n ∧ ER c n := fun n => by
  induction n using Nat.strongRecOn with
  | _ n ih =>
    have hU := runary_of c n (fun k hk => (ih k hk).1) (fun k hk => (ih k hk).2)
    exact ⟨hU, rexpr_of c n hU (fun k hk => (ih k hk).2)⟩

end Go.Proofs.YtggnfanphcaamaaDoor


namespace Go.Proofs.YtggnfanphcaamaaDoor
open Go.RowKit Sx LexS ParS
set_option linter.unusedVariables false
set_option linter.unusedSimpArgs false
theorem inner_kind {r : List Tok} (h : innerT r = true) : (here r).kind = 2 ∨ (here r).kind = 4 := by
  unfold innerT isT at h
  simp only [Bool.or_eq_true, Bool.and_eq_true, decide_eq_true_eq] at h
  rcases h with (h | h) | h <;> exact h.2
theorem unary_out {e m : Nat} {r : List Tok} (h : innerT r = false) : unaryP e m r = leafP e r := by
  cases m with
  | zero => simp only [unaryP]; rw [if_neg (by simp [h])]
  | succ m => simp only [unaryP]; rw [if_neg (by simp [h])]
theorem unary_deep {e : Nat} {r : List Tok} (h : innerT r = true) : unaryP e 0 r = fail e 3 r := by simp only [unaryP]; rw [if_pos h]
theorem unary_par {e m : Nat} {r : List Tok} (h : innerT r = true) (h2 : (here r).text = [40]) : unaryP e (m + 1) r = match exprW (unaryP e m) r.tail with
    | .error f => .error f
    | .ok (x, r1) => match want e [41] r1 with
      | .error f => .error f
      | .ok r2 => .ok (x, r2) := by
  simp only [unaryP]; rw [if_pos h, if_pos h2]; rfl
theorem unary_op {e m : Nat} {r : List Tok} (h : innerT r = true) (h2 : ¬ (here r).text = [40]) : unaryP e (m + 1) r = match unaryP e m r.tail with
    | .error f => .error f
    | .ok (x, r1) => .ok (.mk 3 (if (here r).text = [33] then 18 else 17) 0 [] [x] ((here r).at_ : Int), r1) := by
  simp only [unaryP]; rw [if_pos h, if_neg h2]; rfl

set_option maxHeartbeats 1000000 in
theorem punary_of (c : PCtx) (hR : c.R = 65) (d m : Nat) (hd : d + m = 64) (hE : ∀ k, m = k + 1 → DRead 29 c (d + 1) (exprW (unaryP c.e k))) (hU : ∀ k, m = k + 1 → DRead 57 c (d + 1) (unaryP c.e k)) : DRead 57 c d (unaryP c.e m) := by
  intro r hr w hC hP
  refine retp_of [_, _] Tryd.func57 rfl Tryd.ntmps57 rfl ?_
  
  obtain ⟨w0, rfl⟩ : ∃ w0, w0 = w := ⟨_, rfl⟩
  have hP' := hP
  dsimp only [PAt, pcell] at hP
  have st := St.of1 [c.pb] hP
  have h20 := hC.len
  have hl := suf_len hr
  refine vc_seq ?_
  refine vc_region ?_
  refine vc_e (e_al (l := [_, _, _, _, _, _]) st rfl rfl Tryd.zeroValue26 rfl ?_)
  intro b4 w hb4 st
  refine vc_end ?_
  refine vq_then ?_
  refine vc_keep [(0, _), (1, _), (4, _)] ⟨rfl, rfl, rfl, trivial⟩ ?_
  refine vc_seq ?_
  refine vc_region ?_
  refine vc_y rfl rfl (y_mv rfl) ?_
  refine vc_e (e_call [_] rfl rfl Tryd.call58 rfl (phere_any c r hr _ (hC.k1 st.chg) (by exact st.res (i := 1) rfl)) ?_)
  rintro _ w ⟨rfl, cw⟩
  replace st := st.call0 cw
  refine vc_e (e_al (l := [_, _, _, _]) st rfl rfl Tryd.zeroValue53 rfl ?_)
  intro b5 w hb5 st
  refine vc_e (e_sts (vs := [_, _, _, _]) st 0 rfl rfl rfl rfl rfl Tryd.sizeOf53 rfl rfl (by first | (right; assumption) | (left; simp)) ?_)
  intro w st; dsimp only [setNth, wr] at st
  refine vc_end ?_
  refine vq_then ?_
  refine vc_keep [(0, _), (1, _), (4, _), (5, _)] ⟨rfl, rfl, rfl, rfl, trivial⟩ ?_
  refine vc_cut (w0 := w0) (M := [c.pb]) (fun (b : Bool) => [(0, .pointer (some ⟨c.pb, 0, none⟩)), (1, .int .i64 (d : Int)), (4, .pointer (some ⟨b4, 0, none⟩)), (5, .pointer (some ⟨b5, 0, none⟩)), (6, .bool b)]) (fun _ => [.blk b5 (.cells (tkL (here r)).toArray 53 (0, 0)), .blk b4 (.cells ex00.toArray 26 (0, 0)), .blk c.pb (.cells (pcell c r).toArray c.T (0, 0))]) (fun b _ => b = innerT r) ?_ ?_
  ·
    refine vc_region ?_
    refine vc_y rfl rfl (y_mv rfl) ?_
    refine vc_e (e_call [_, _] rfl rfl Tryd.call71 rfl (pis_any c [45] r hr _ (hC.k1 st.chg) (by exact st.res (i := 2) rfl)) ?_)
    rintro _ w ⟨rfl, cw⟩
    replace st := st.call0 cw
    refine vc_e (e_mvb rfl rfl rfl ?_ ?_)
    · intro hg13
      try simp only [dn] at hg13
      refine vc_e (e_skip rfl rfl ?_)
      refine vc_e (e_skip rfl rfl ?_)
      refine vc_y rfl rfl (y_pickt rfl rfl) ?_
      refine vc_y rfl rfl (y_mv rfl) ?_
      refine vc_e (e_skip rfl rfl ?_)
      refine vc_e (e_skip rfl rfl ?_)
      refine vc_y rfl rfl (y_pickt rfl rfl) ?_
      refine vc_y rfl rfl (y_as rfl) ?_
      refine vc_end ?_
      refine vq_meet true ⟨rfl, rfl, rfl, rfl, rfl, trivial⟩ st ?_
      · show true = _
        unfold innerT; rw [hg13]; rfl
    · intro hg13
      try simp only [dn] at hg13
      refine vc_y rfl rfl (y_mv rfl) ?_
      refine vc_e (e_call [_, _] rfl rfl Tryd.call71 rfl (pis_any c [33] r hr _ (hC.k1 st.chg) (by exact st.res (i := 2) rfl)) ?_)
      rintro _ w ⟨rfl, cw⟩
      replace st := st.call0 cw
      refine vc_y rfl rfl (y_pickf rfl rfl) ?_
      refine vc_e (e_mvb rfl rfl rfl ?_ ?_)
      · intro hg17
        try simp only [dn] at hg17
        refine vc_e (e_skip rfl rfl ?_)
        refine vc_e (e_skip rfl rfl ?_)
        refine vc_y rfl rfl (y_pickt rfl rfl) ?_
        refine vc_y rfl rfl (y_as rfl) ?_
        refine vc_end ?_
        refine vq_meet true ⟨rfl, rfl, rfl, rfl, rfl, trivial⟩ st ?_
        · show true = _
          unfold innerT; rw [hg17]; simp
      · intro hg17
        try simp only [dn] at hg17
        refine vc_y rfl rfl (y_mv rfl) ?_
        refine vc_e (e_call [_, _] rfl rfl Tryd.call71 rfl (pis_any c [40] r hr _ (hC.k1 st.chg) (by exact st.res (i := 2) rfl)) ?_)
        rintro _ w ⟨rfl, cw⟩
        replace st := st.call0 cw
        refine vc_y rfl rfl (y_pickf rfl rfl) ?_
        refine vc_y rfl rfl (y_as rfl) ?_
        refine vc_end ?_
        refine vq_meet (isT [40] r) ⟨rfl, rfl, rfl, rfl, rfl, trivial⟩ st ?_
        · show isT [40] r = _
          unfold innerT; rw [hg13, hg17]; rfl
  ·
    clear st
    rintro inn w hin st
    refine vc_seq ?_
    refine vc_block ?_
    refine vc_seq ?_
    refine vc_region ?_
    refine vc_y rfl rfl (y_mv rfl) ?_
    refine vc_e (e_mvb rfl rfl rfl ?_ ?_)
    · intro hg23
      try simp only [dn] at hg23
      subst hg23
      refine vc_y rfl rfl (y_mv rfl) ?_
      refine vc_y rfl rfl (y_eqi rfl rfl) ?_
      refine vc_y rfl rfl (y_pickt rfl rfl) ?_
      refine vc_y rfl rfl (y_as rfl) ?_
      refine vc_end ?_
      refine vq_then ?_
      refine vc_keep [(0, _), (1, _), (4, _), (5, _), (6, _), (21, _)] ⟨rfl, rfl, rfl, rfl, rfl, rfl, trivial⟩ ?_
      refine vc_ifs rfl ?_ ?_
      · intro hc21
        try simp only [dn] at hc21
        have hd64 : d = 64 := by omega
        obtain rfl : m = 0 := by omega
        have hs := unary_deep (e := c.e) hin.symm
        refine vc_region ?_
        refine vc_y rfl rfl (y_mv rfl) ?_
        refine vc_e (e_callp [_, _] rfl rfl Tryd.call30 rfl (pfail_any c 3 r hr _ (hC.k1 st.chg) (by exact st.res (i := 2) rfl) hR) (by rintro _ w' ⟨rfl, ch⟩ a ha; exact And.intro ha (Or.inr ⟨_, rfl, (atT c.e r, 3), by rw [hs]; rfl, rfl, st.chg.trans ch.of_nil⟩)) (fun _ _ h => h.elim))
      · intro hc21
        try simp only [dn] at hc21
        have hd64 : ¬ d = 64 := by omega
        obtain ⟨m, rfl⟩ : ∃ k, m = k + 1 := ⟨m - 1, by omega⟩
        refine vc_seq ?_
        refine vc_region ?_
        refine vc_y rfl rfl (y_fa0 rfl Tryd.underlying53 rfl rfl Tryd.sizeOf51 rfl) ?_
        refine vc_y rfl rfl ((by exact y_ld st 0 rfl Tryd.isAgg51 rfl rfl)) ?_
        refine vc_y rfl rfl (y_eqi rfl rfl) ?_
        refine vc_y rfl rfl (y_as rfl) ?_
        refine vc_end ?_
        refine vq_then ?_
        refine vc_keep [(0, _), (1, _), (4, _), (5, _), (6, _), (29, _)] ⟨rfl, rfl, rfl, rfl, rfl, rfl, trivial⟩ ?_
        refine vc_ifs rfl ?_ ?_
        · intro hc29
          exfalso; have := inner_kind hin.symm; revert hc29; simp; omega
        · intro hc29
          try simp only [dn] at hc29
          refine vc_seq ?_
          refine vc_region ?_
          refine vc_y rfl rfl (y_fa0 rfl Tryd.underlying53 rfl rfl Tryd.sizeOf51 rfl) ?_
          refine vc_y rfl rfl ((by exact y_ld st 0 rfl Tryd.isAgg51 rfl rfl)) ?_
          refine vc_y rfl rfl (y_eqi rfl rfl) ?_
          refine vc_y rfl rfl (y_as rfl) ?_
          refine vc_end ?_
          refine vq_then ?_
          refine vc_keep [(0, _), (1, _), (4, _), (5, _), (6, _), (40, _)] ⟨rfl, rfl, rfl, rfl, rfl, rfl, trivial⟩ ?_
          refine vc_ifs rfl ?_ ?_
          · intro hc40
            exfalso; have := inner_kind hin.symm; revert hc40; simp; omega
          · intro hc40
            try simp only [dn] at hc40
            refine vc_seq ?_
            refine vc_region ?_
            refine vc_y rfl rfl (y_mv rfl) ?_
            refine vc_y rfl rfl (y_not rfl) ?_
            refine vc_y rfl rfl (y_as rfl) ?_
            refine vc_end ?_
            refine vq_then ?_
            refine vc_keep [(0, _), (1, _), (4, _), (5, _), (51, _)] ⟨rfl, rfl, rfl, rfl, rfl, trivial⟩ ?_
            refine vc_ifs rfl ?_ ?_
            · intro hc51
              exfalso; revert hc51; simp
            · intro hc51
              try simp only [dn] at hc51
              refine vc_code_skip ?_
              refine vq_block ?_
              refine vq_then ?_
              refine vc_keep [(0, _), (1, _), (4, _), (5, _)] ⟨rfl, rfl, rfl, rfl, trivial⟩ ?_
              refine vc_seq ?_
              refine vc_region ?_
              refine vc_y rfl rfl (y_mv rfl) ?_
              refine vc_e (e_call [_] rfl rfl Tryd.call60 rfl (pnext_any c r hr (inner_ne hin.symm) _ (hC.k1 st.chg) (by exact st.res (i := 2) rfl)) ?_)
              rintro _ w ⟨rfl, hP1, cw⟩
              first
              | replace st := St.prs (b := c.pb) st 0 rfl cw (.inl (.head _)) hP1
              | replace st := St.prs (b := c.pb) st 1 rfl cw (.inl (.head _)) hP1
              | replace st := St.prs (b := c.pb) st 2 rfl cw (.inl (.head _)) hP1
              | replace st := St.prs (b := c.pb) st 3 rfl cw (.inl (.head _)) hP1
              | replace st := St.prs (b := c.pb) st 4 rfl cw (.inl (.head _)) hP1
              | replace st := St.prs (b := c.pb) st 5 rfl cw (.inl (.head _)) hP1
              | replace st := St.prs (b := c.pb) st 6 rfl cw (.inl (.head _)) hP1
              | replace st := St.prs (b := c.pb) st 7 rfl cw (.inl (.head _)) hP1
              | replace st := St.prs (b := c.pb) st 8 rfl cw (.inl (.head _)) hP1
              | replace st := St.prs (b := c.pb) st 9 rfl cw (.inl (.head _)) hP1
              dsimp only [setNth] at st
              refine vc_end ?_
              refine vq_then ?_
              refine vc_keep [(0, _), (1, _), (4, _), (5, _)] ⟨rfl, rfl, rfl, rfl, trivial⟩ ?_
              refine vc_seq ?_
              refine vc_seq ?_
              refine vc_region ?_
              refine vc_y rfl rfl ((by exact y_faz (k := 1) rfl Tryd.underlying53 rfl rfl Tryd.sizeOf9 rfl)) ?_
              refine vc_y rfl rfl ((by exact y_ld st 0 rfl Tryd.isAgg9 rfl rfl)) ?_
              refine vc_y rfl rfl (y_eqs rfl rfl) ?_
              refine vc_end ?_
              refine vq_then ?_
              refine vc_keep [(0, _), (1, _), (4, _), (5, _), (60, _)] ⟨rfl, rfl, rfl, rfl, rfl, trivial⟩ ?_
              refine vc_ifs rfl ?_ ?_
              · intro hc60
                try simp only [dn] at hc60
                have hs := unary_par (e := c.e) (m := m) hin.symm hc60
                have hne := inner_ne hin.symm
                have hlt := tail_lt hne
                have hr1 := suf_tail hr
                refine vc_seq ?_
                refine vc_region ?_
                refine vc_y rfl rfl (y_mv rfl) ?_
                refine vc_y rfl rfl (y_mv rfl) ?_
                refine vc_y rfl rfl (y_add rfl rfl (by omega : _ = ((d + 1 : Nat) : Int)) (by omega) (by omega)) ?_
                refine vc_e (e_callp [_, _] rfl rfl Tryd.call29 rfl (hE m rfl r.tail hr1 _ (hC.k1 st.chg) (by exact st.res (i := 2) rfl)) (by rintro _ w' ⟨f, hf, rfl, ch⟩ a ha; exact And.intro ha (Or.inr ⟨_, rfl, f, by rw [hs, hf], rfl, st.chg.trans ch⟩)) ?_)
                rintro _ w ⟨x, r2, hx, hsfr2, hlnr2, hP1, cw, ox, cx, Sx, rfl, hQ, hN⟩
                have hNSx := hN.le st.chg.size
                first
                | replace st := St.prsT (b := c.pb) st 0 rfl cw (.inl (.head _)) hP1 (holds_ex hQ) hN.2
                | replace st := St.prsT (b := c.pb) st 1 rfl cw (.inl (.head _)) hP1 (holds_ex hQ) hN.2
                | replace st := St.prsT (b := c.pb) st 2 rfl cw (.inl (.head _)) hP1 (holds_ex hQ) hN.2
                | replace st := St.prsT (b := c.pb) st 3 rfl cw (.inl (.head _)) hP1 (holds_ex hQ) hN.2
                | replace st := St.prsT (b := c.pb) st 4 rfl cw (.inl (.head _)) hP1 (holds_ex hQ) hN.2
                | replace st := St.prsT (b := c.pb) st 5 rfl cw (.inl (.head _)) hP1 (holds_ex hQ) hN.2
                | replace st := St.prsT (b := c.pb) st 6 rfl cw (.inl (.head _)) hP1 (holds_ex hQ) hN.2
                | replace st := St.prsT (b := c.pb) st 7 rfl cw (.inl (.head _)) hP1 (holds_ex hQ) hN.2
                | replace st := St.prsT (b := c.pb) st 8 rfl cw (.inl (.head _)) hP1 (holds_ex hQ) hN.2
                | replace st := St.prsT (b := c.pb) st 9 rfl cw (.inl (.head _)) hP1 (holds_ex hQ) hN.2
                dsimp only [setNth] at st
                rw [hx] at hs; dsimp only at hs
                refine vc_e (e_al (l := [_, _, _, _, _, _]) st rfl rfl Tryd.zeroValue26 rfl ?_)
                intro b7 w hb7 st
                refine vc_e (e_sts (vs := [_, _, _, _, _, _]) st 0 rfl rfl rfl rfl rfl Tryd.sizeOf26 rfl rfl (by first | (right; assumption) | (left; simp)) ?_)
                intro w st; dsimp only [setNth, wr] at st
                refine vc_end ?_
                refine vq_then ?_
                refine vc_keep [(0, _), (4, _), (7, _)] ⟨rfl, rfl, rfl, trivial⟩ ?_
                refine vc_seq ?_
                refine vc_region ?_
                refine vc_y rfl rfl (y_mv rfl) ?_
                refine vc_e (e_bs1 (l := [_]) st rfl rfl rfl rfl Tryd.underlying50 Tryd.sizeOf9 rfl rfl rfl Tryd.zeroValue9 ?_)
                intro b66 w hb66 st
                refine vc_e (e_callp [_, _] rfl rfl Tryd.call81 rfl (pwant_any c [[41]] (by simp) _ _ _ _ rfl r2 (hsfr2.trans hr1) _ (hC.k1 st.chg) (by exact st.res (i := 5) rfl) hR (st.res (i := 0) rfl) (by exact st.bne 0 5 (by decide) rfl rfl)) (by rintro _ w' ⟨f, hf, rfl, ch⟩ a ha; rw [wantL_one] at hf; exact And.intro ha (Or.inr ⟨_, rfl, f, by rw [hs, hf], rfl, st.chg.trans ch⟩)) ?_)
                rintro _ w ⟨r3, hx, hsfr3, hlnr3, hP1, cw⟩
                rw [wantL_one] at hx
                rw [hx] at hs; dsimp only at hs
                first
                | replace st := St.prs (b := c.pb) st 0 rfl cw (.inl (.head _)) hP1
                | replace st := St.prs (b := c.pb) st 1 rfl cw (.inl (.head _)) hP1
                | replace st := St.prs (b := c.pb) st 2 rfl cw (.inl (.head _)) hP1
                | replace st := St.prs (b := c.pb) st 3 rfl cw (.inl (.head _)) hP1
                | replace st := St.prs (b := c.pb) st 4 rfl cw (.inl (.head _)) hP1
                | replace st := St.prs (b := c.pb) st 5 rfl cw (.inl (.head _)) hP1
                | replace st := St.prs (b := c.pb) st 6 rfl cw (.inl (.head _)) hP1
                | replace st := St.prs (b := c.pb) st 7 rfl cw (.inl (.head _)) hP1
                | replace st := St.prs (b := c.pb) st 8 rfl cw (.inl (.head _)) hP1
                | replace st := St.prs (b := c.pb) st 9 rfl cw (.inl (.head _)) hP1
                dsimp only [setNth] at st
                have hr3 := hsfr3.trans (hsfr2.trans hr1)
                refine vc_end ?_
                refine vq_then ?_
                refine vc_keep [(4, _), (7, _)] ⟨rfl, rfl, trivial⟩ ?_
                refine vc_seq ?_
                refine vc_region ?_
                refine vc_y rfl rfl ((by exact y_lda (vs := [_, _, _, _, _, _]) st 1 rfl Tryd.isAgg26 Tryd.sizeOf26 rfl rfl)) ?_
                refine vc_e (e_sts (vs := [_, _, _, _, _, _]) st 4 rfl rfl rfl rfl rfl Tryd.sizeOf26 rfl rfl (by first | (right; assumption) | (left; simp)) ?_)
                intro w st; dsimp only [setNth, wr] at st
                refine vc_end ?_
                refine vq_then ?_
                refine vc_keep [(4, _)] ⟨rfl, trivial⟩ ?_
                refine vc_ret ?_
                refine vq_then_ret ?_
                refine vq_ret1 st (.inl rfl) Tryd.results57 (by exact .cell 4 rfl rfl Tryd.isAgg26 Tryd.sizeOf26) ?_
                refine .inl ⟨_, rfl, ?_⟩
                exact ⟨x, r3, hs, (hsfr3.trans hsfr2).trans (List.tail_suffix _), by simp at hlnr3; omega, (by exact st.res (i := 5) rfl), st.chg, ox, cx, Sx, rfl, (by exact (st.res (i := 2) rfl).1), hNSx⟩
              · intro hc60
                try simp only [dn] at hc60
                have hs := unary_op (e := c.e) (m := m) hin.symm hc60
                have hne := inner_ne hin.symm
                have hlt := tail_lt hne
                have hr1 := suf_tail hr
                refine vc_code_skip ?_
                refine vq_then ?_
                refine vc_keep [(0, _), (1, _), (4, _), (5, _)] ⟨rfl, rfl, rfl, rfl, trivial⟩ ?_
                refine vc_seq ?_
                refine vc_region ?_
                refine vc_y rfl rfl (y_as rfl) ?_
                refine vc_end ?_
                refine vq_then ?_
                refine vc_keep [(0, _), (1, _), (4, _), (5, _), (8, _)] ⟨rfl, rfl, rfl, rfl, rfl, trivial⟩ ?_
                refine vc_seq ?_
                refine vc_seq ?_
                refine vc_region ?_
                refine vc_y rfl rfl ((by exact y_faz (k := 1) rfl Tryd.underlying53 rfl rfl Tryd.sizeOf9 rfl)) ?_
                refine vc_y rfl rfl ((by exact y_ld st 0 rfl Tryd.isAgg9 rfl rfl)) ?_
                refine vc_y rfl rfl (y_eqs rfl rfl) ?_
                refine vc_end ?_
                refine vq_then ?_
                refine vc_keep [(0, _), (1, _), (4, _), (5, _), (8, _), (71, _)] ⟨rfl, rfl, rfl, rfl, rfl, rfl, trivial⟩ ?_
                refine vc_ifs rfl ?_ ?_
                · intro hc71
                  try simp only [dn] at hc71
                  rw [if_pos hc71] at hs
                  refine vc_region ?_
                  refine vc_y rfl rfl (y_as rfl) ?_
                  refine vc_end ?_
                  refine vq_then ?_
                  refine vc_keep [(0, _), (1, _), (4, _), (5, _), (8, _)] ⟨rfl, rfl, rfl, rfl, rfl, trivial⟩ ?_
                  refine vc_seq ?_
                  refine vc_draw Tryd.mixed [(0, true), (1, true), (2, true), (3, true), (6, true), (7, true), (4, false), (5, false), (8, true), (9, false)] (fun w => St _ _ [.blk b5 (.cells (tkL (here r)).toArray 53 (0, 0))] w) (by exact st.drop (by repeat (first | exact sl0 | apply sl1 | apply sl2))) (by kernel_rfl) (by repeat (first | exact okQ_body | refine okQ_then ?_ | refine okQ_block ?_)) rfl (by kernel_rfl) ?_
                  intro w cd; replace st := st.call0 cd; clear cd
                  have hS : St _ _ [.blk b5 (.cells (tkL (here r)).toArray 53 (0, 0))] w := (by exact st.drop (by repeat (first | exact sl0 | apply sl1 | apply sl2)))
                  refine vp_take rfl rfl rfl hS (fun w st => y_mv rfl) ?_
                  refine vp_take rfl rfl rfl hS (fun w st => y_mv rfl) ?_
                  refine vp_take rfl rfl rfl hS (fun w st => y_mv rfl) ?_
                  refine vp_take rfl rfl rfl hS (fun w st => y_add rfl rfl (by omega : _ = ((d + 1 : Nat) : Int)) (by omega) (by omega)) ?_
                  refine vp_take rfl rfl rfl hS (fun w st => (by exact y_faz (k := 3) rfl Tryd.underlying53 rfl rfl Tryd.sizeOf3 rfl)) ?_
                  refine vp_take rfl rfl rfl hS (fun w st => (by exact y_ld st 0 rfl Tryd.isAgg3 rfl rfl)) ?_
                  refine vp_do rfl (e_callp [_, _] rfl rfl Tryd.call57 rfl (hU m rfl r.tail hr1 _ (hC.k1 st.chg) (by exact st.res (i := 2) rfl)) (by rintro _ w' ⟨f, hf, rfl, ch⟩ a ha; exact And.intro ha (Or.inr ⟨_, rfl, f, by rw [hs, hf], rfl, st.chg.trans ch⟩)) ?_)
                  rintro _ w ⟨x, r2, hx, hsfr2, hlnr2, hP1, cw, ox, cx, Sx, rfl, hQ, hN⟩
                  have hNSx := hN.le st.chg.size
                  first
                  | replace st := St.prsT (b := c.pb) st 0 rfl cw (.inl (.head _)) hP1 (holds_ex hQ) hN.2
                  | replace st := St.prsT (b := c.pb) st 1 rfl cw (.inl (.head _)) hP1 (holds_ex hQ) hN.2
                  | replace st := St.prsT (b := c.pb) st 2 rfl cw (.inl (.head _)) hP1 (holds_ex hQ) hN.2
                  | replace st := St.prsT (b := c.pb) st 3 rfl cw (.inl (.head _)) hP1 (holds_ex hQ) hN.2
                  | replace st := St.prsT (b := c.pb) st 4 rfl cw (.inl (.head _)) hP1 (holds_ex hQ) hN.2
                  | replace st := St.prsT (b := c.pb) st 5 rfl cw (.inl (.head _)) hP1 (holds_ex hQ) hN.2
                  | replace st := St.prsT (b := c.pb) st 6 rfl cw (.inl (.head _)) hP1 (holds_ex hQ) hN.2
                  | replace st := St.prsT (b := c.pb) st 7 rfl cw (.inl (.head _)) hP1 (holds_ex hQ) hN.2
                  | replace st := St.prsT (b := c.pb) st 8 rfl cw (.inl (.head _)) hP1 (holds_ex hQ) hN.2
                  | replace st := St.prsT (b := c.pb) st 9 rfl cw (.inl (.head _)) hP1 (holds_ex hQ) hN.2
                  dsimp only [setNth] at st
                  rw [hx] at hs; dsimp only at hs
                  refine vp_next (by exact st.drop (by repeat (first | exact sl0 | apply sl1 | apply sl2))) ?_; intro hS
                  refine vp_do rfl (e_bs1 (l := [_, _, _, _, _, _]) st rfl rfl rfl rfl Tryd.underlying24 Tryd.sizeOf26 rfl rfl rfl Tryd.zeroValue26 ?_)
                  intro b77 w hb77 st
                  refine vp_next (by exact st.drop (by repeat (first | exact sl0 | apply sl1 | apply sl2))) ?_; intro hS
                  refine vp_take rfl rfl rfl hS (fun w st => y_bld (.agg #[_, _, _, _, _, _]) [(0, _), (1, _), (4, _), (5, _)] rfl (fun w => by simp [Instr.build, go_sem] <;> repeat' constructor)) ?_
                  refine vp_do rfl (e_sts (vs := [_, _, _, _, _, _]) st 3 rfl rfl rfl rfl rfl Tryd.sizeOf26 rfl rfl (by first | (right; assumption) | (left; simp)) ?_)
                  intro w st; dsimp only [setNth, wr] at st
                  refine vp_next (by exact st.drop (by repeat (first | exact sl0 | apply sl1 | apply sl2))) ?_; intro hS
                  refine vp_end ?_
                  refine vq_then ?_
                  refine vc_keep [(4, _)] ⟨rfl, trivial⟩ ?_
                  refine vc_ret ?_
                  refine vq_ret1 st (.inl rfl) Tryd.results57 (by exact .cell 3 rfl rfl Tryd.isAgg26 Tryd.sizeOf26) ?_
                  refine .inl ⟨_, rfl, ?_⟩
                  exact ⟨_, _, hs, hsfr2.trans (List.tail_suffix _), by omega, (by exact st.res (i := 4) rfl), st.chg, some ⟨b77, 0, none⟩, 1, b77 :: Sx, rfl, ex_one (st.res (i := 0) rfl) (st.res (i := 1) rfl).1, Nw.app (S := [b77]) ⟨by simp, by simpa using hb77⟩ hNSx (fun b hb hb' => st.ne (i := 0) (j := 1) (by decide) rfl rfl b hb hb')⟩
                · intro hc71
                  try simp only [dn] at hc71
                  rw [if_neg hc71] at hs
                  refine vc_code_skip ?_
                  refine vq_then ?_
                  refine vc_keep [(0, _), (1, _), (4, _), (5, _), (8, _)] ⟨rfl, rfl, rfl, rfl, rfl, trivial⟩ ?_
                  refine vc_seq ?_
                  refine vc_draw Tryd.mixed [(0, true), (1, true), (2, true), (3, true), (6, true), (7, true), (4, false), (5, false), (8, true), (9, false)] (fun w => St _ _ [.blk b5 (.cells (tkL (here r)).toArray 53 (0, 0))] w) (by exact st.drop (by repeat (first | exact sl0 | apply sl1 | apply sl2))) (by kernel_rfl) (by repeat (first | exact okQ_body | refine okQ_then ?_ | refine okQ_block ?_)) rfl (by kernel_rfl) ?_
                  intro w cd; replace st := st.call0 cd; clear cd
                  have hS : St _ _ [.blk b5 (.cells (tkL (here r)).toArray 53 (0, 0))] w := (by exact st.drop (by repeat (first | exact sl0 | apply sl1 | apply sl2)))
                  refine vp_take rfl rfl rfl hS (fun w st => y_mv rfl) ?_
                  refine vp_take rfl rfl rfl hS (fun w st => y_mv rfl) ?_
                  refine vp_take rfl rfl rfl hS (fun w st => y_mv rfl) ?_
                  refine vp_take rfl rfl rfl hS (fun w st => y_add rfl rfl (by omega : _ = ((d + 1 : Nat) : Int)) (by omega) (by omega)) ?_
                  refine vp_take rfl rfl rfl hS (fun w st => (by exact y_faz (k := 3) rfl Tryd.underlying53 rfl rfl Tryd.sizeOf3 rfl)) ?_
                  refine vp_take rfl rfl rfl hS (fun w st => (by exact y_ld st 0 rfl Tryd.isAgg3 rfl rfl)) ?_
                  refine vp_do rfl (e_callp [_, _] rfl rfl Tryd.call57 rfl (hU m rfl r.tail hr1 _ (hC.k1 st.chg) (by exact st.res (i := 2) rfl)) (by rintro _ w' ⟨f, hf, rfl, ch⟩ a ha; exact And.intro ha (Or.inr ⟨_, rfl, f, by rw [hs, hf], rfl, st.chg.trans ch⟩)) ?_)
                  rintro _ w ⟨x, r2, hx, hsfr2, hlnr2, hP1, cw, ox, cx, Sx, rfl, hQ, hN⟩
                  have hNSx := hN.le st.chg.size
                  first
                  | replace st := St.prsT (b := c.pb) st 0 rfl cw (.inl (.head _)) hP1 (holds_ex hQ) hN.2
                  | replace st := St.prsT (b := c.pb) st 1 rfl cw (.inl (.head _)) hP1 (holds_ex hQ) hN.2
                  | replace st := St.prsT (b := c.pb) st 2 rfl cw (.inl (.head _)) hP1 (holds_ex hQ) hN.2
                  | replace st := St.prsT (b := c.pb) st 3 rfl cw (.inl (.head _)) hP1 (holds_ex hQ) hN.2
                  | replace st := St.prsT (b := c.pb) st 4 rfl cw (.inl (.head _)) hP1 (holds_ex hQ) hN.2
                  | replace st := St.prsT (b := c.pb) st 5 rfl cw (.inl (.head _)) hP1 (holds_ex hQ) hN.2
                  | replace st := St.prsT (b := c.pb) st 6 rfl cw (.inl (.head _)) hP1 (holds_ex hQ) hN.2
                  | replace st := St.prsT (b := c.pb) st 7 rfl cw (.inl (.head _)) hP1 (holds_ex hQ) hN.2
                  | replace st := St.prsT (b := c.pb) st 8 rfl cw (.inl (.head _)) hP1 (holds_ex hQ) hN.2
                  | replace st := St.prsT (b := c.pb) st 9 rfl cw (.inl (.head _)) hP1 (holds_ex hQ) hN.2
                  dsimp only [setNth] at st
                  rw [hx] at hs; dsimp only at hs
                  refine vp_next (by exact st.drop (by repeat (first | exact sl0 | apply sl1 | apply sl2))) ?_; intro hS
                  refine vp_do rfl (e_bs1 (l := [_, _, _, _, _, _]) st rfl rfl rfl rfl Tryd.underlying24 Tryd.sizeOf26 rfl rfl rfl Tryd.zeroValue26 ?_)
                  intro b77 w hb77 st
                  refine vp_next (by exact st.drop (by repeat (first | exact sl0 | apply sl1 | apply sl2))) ?_; intro hS
                  refine vp_take rfl rfl rfl hS (fun w st => y_bld (.agg #[_, _, _, _, _, _]) [(0, _), (1, _), (4, _), (5, _)] rfl (fun w => by simp [Instr.build, go_sem] <;> repeat' constructor)) ?_
                  refine vp_do rfl (e_sts (vs := [_, _, _, _, _, _]) st 3 rfl rfl rfl rfl rfl Tryd.sizeOf26 rfl rfl (by first | (right; assumption) | (left; simp)) ?_)
                  intro w st; dsimp only [setNth, wr] at st
                  refine vp_next (by exact st.drop (by repeat (first | exact sl0 | apply sl1 | apply sl2))) ?_; intro hS
                  refine vp_end ?_
                  refine vq_then ?_
                  refine vc_keep [(4, _)] ⟨rfl, trivial⟩ ?_
                  refine vc_ret ?_
                  refine vq_ret1 st (.inl rfl) Tryd.results57 (by exact .cell 3 rfl rfl Tryd.isAgg26 Tryd.sizeOf26) ?_
                  refine .inl ⟨_, rfl, ?_⟩
                  exact ⟨_, _, hs, hsfr2.trans (List.tail_suffix _), by omega, (by exact st.res (i := 4) rfl), st.chg, some ⟨b77, 0, none⟩, 1, b77 :: Sx, rfl, ex_one (st.res (i := 0) rfl) (st.res (i := 1) rfl).1, Nw.app (S := [b77]) ⟨by simp, by simpa using hb77⟩ hNSx (fun b hb hb' => st.ne (i := 0) (j := 1) (by decide) rfl rfl b hb hb')⟩
    · intro hg23
      try simp only [dn] at hg23
      subst hg23
      refine vc_e (e_skip rfl rfl ?_)
      refine vc_e (e_skip rfl rfl ?_)
      refine vc_y rfl rfl (y_pickf rfl rfl) ?_
      refine vc_y rfl rfl (y_as rfl) ?_
      refine vc_end ?_
      refine vq_then ?_
      refine vc_keep [(0, _), (1, _), (4, _), (5, _), (6, _), (21, _)] ⟨rfl, rfl, rfl, rfl, rfl, rfl, trivial⟩ ?_
      refine vc_iff rfl ?_
      refine vc_seq ?_
      refine vc_region ?_
      refine vc_y rfl rfl (y_fa0 rfl Tryd.underlying53 rfl rfl Tryd.sizeOf51 rfl) ?_
      refine vc_y rfl rfl ((by exact y_ld st 0 rfl Tryd.isAgg51 rfl rfl)) ?_
      refine vc_y rfl rfl (y_eqi rfl rfl) ?_
      refine vc_y rfl rfl (y_as rfl) ?_
      refine vc_end ?_
      refine vq_then ?_
      refine vc_keep [(0, _), (1, _), (4, _), (5, _), (6, _), (29, _)] ⟨rfl, rfl, rfl, rfl, rfl, rfl, trivial⟩ ?_
      refine vc_ifs rfl ?_ ?_
      · intro hc29
        try simp only [dn] at hc29
        have hk : (here r).kind = 3 := by omega
        have hne := kind_ne hk (by decide)
        have hs := (unary_out (e := c.e) (m := m) hin.symm).trans (by unfold leafP; rw [if_pos hk])
        refine vc_seq ?_
        refine vc_region ?_
        refine vc_y rfl rfl (y_mv rfl) ?_
        refine vc_e (e_call [_] rfl rfl Tryd.call60 rfl (pnext_any c r hr hne _ (hC.k1 st.chg) (by exact st.res (i := 2) rfl)) ?_)
        rintro _ w ⟨rfl, hP1, cw⟩
        first
        | replace st := St.prs (b := c.pb) st 0 rfl cw (.inl (.head _)) hP1
        | replace st := St.prs (b := c.pb) st 1 rfl cw (.inl (.head _)) hP1
        | replace st := St.prs (b := c.pb) st 2 rfl cw (.inl (.head _)) hP1
        | replace st := St.prs (b := c.pb) st 3 rfl cw (.inl (.head _)) hP1
        | replace st := St.prs (b := c.pb) st 4 rfl cw (.inl (.head _)) hP1
        | replace st := St.prs (b := c.pb) st 5 rfl cw (.inl (.head _)) hP1
        | replace st := St.prs (b := c.pb) st 6 rfl cw (.inl (.head _)) hP1
        | replace st := St.prs (b := c.pb) st 7 rfl cw (.inl (.head _)) hP1
        | replace st := St.prs (b := c.pb) st 8 rfl cw (.inl (.head _)) hP1
        | replace st := St.prs (b := c.pb) st 9 rfl cw (.inl (.head _)) hP1
        dsimp only [setNth] at st
        refine vc_end ?_
        refine vq_then ?_
        refine vc_keep [(4, _), (5, _)] ⟨rfl, rfl, trivial⟩ ?_
        refine vc_seq ?_
        refine vc_region ?_
        refine vc_y rfl rfl ((by exact y_faz (k := 2) rfl Tryd.underlying53 rfl rfl Tryd.sizeOf2 rfl)) ?_
        refine vc_y rfl rfl ((by exact y_ld st 0 rfl Tryd.isAgg2 rfl rfl)) ?_
        refine vc_y rfl rfl ((by exact y_faz (k := 3) rfl Tryd.underlying53 rfl rfl Tryd.sizeOf3 rfl)) ?_
        refine vc_y rfl rfl ((by exact y_ld st 0 rfl Tryd.isAgg3 rfl rfl)) ?_
        refine vc_y rfl rfl (y_bld (.agg #[_, _, _, _, _, _]) [(0, _), (2, _), (5, _)] rfl (fun w => by simp [Instr.build, go_sem] <;> repeat' constructor)) ?_
        refine vc_e (e_sts (vs := [_, _, _, _, _, _]) st 1 rfl rfl rfl rfl rfl Tryd.sizeOf26 rfl rfl (by first | (right; assumption) | (left; simp)) ?_)
        intro w st; dsimp only [setNth, wr] at st
        refine vc_end ?_
        refine vq_then ?_
        refine vc_keep [(4, _)] ⟨rfl, trivial⟩ ?_
        refine vc_ret ?_
        refine vq_block_ret ?_
        refine vq_then_ret ?_
        refine vq_ret1 st (.inl rfl) Tryd.results57 (by exact .cell 1 rfl rfl Tryd.isAgg26 Tryd.sizeOf26) ?_
        refine .inl ⟨_, rfl, ?_⟩
        exact ⟨_, _, hs, List.tail_suffix _, tail_lt hne, (by exact st.res (i := 2) rfl), st.chg, none, 0, [], rfl, ⟨[], [], World.ownsRow_nil _ _ _ _, rfl, rfl, rfl⟩, Nw.nil⟩
      · intro hc29
        try simp only [dn] at hc29
        refine vc_seq ?_
        refine vc_region ?_
        refine vc_y rfl rfl (y_fa0 rfl Tryd.underlying53 rfl rfl Tryd.sizeOf51 rfl) ?_
        refine vc_y rfl rfl ((by exact y_ld st 0 rfl Tryd.isAgg51 rfl rfl)) ?_
        refine vc_y rfl rfl (y_eqi rfl rfl) ?_
        refine vc_y rfl rfl (y_as rfl) ?_
        refine vc_end ?_
        refine vq_then ?_
        refine vc_keep [(0, _), (1, _), (4, _), (5, _), (6, _), (40, _)] ⟨rfl, rfl, rfl, rfl, rfl, rfl, trivial⟩ ?_
        refine vc_ifs rfl ?_ ?_
        · intro hc40
          try simp only [dn] at hc40
          have hk : (here r).kind = 1 := by omega
          have hne := kind_ne hk (by decide)
          have hs := (unary_out (e := c.e) (m := m) hin.symm).trans (by unfold leafP; rw [if_neg (by omega), if_pos hk])
          refine vc_seq ?_
          refine vc_region ?_
          refine vc_y rfl rfl (y_mv rfl) ?_
          refine vc_e (e_call [_] rfl rfl Tryd.call60 rfl (pnext_any c r hr hne _ (hC.k1 st.chg) (by exact st.res (i := 2) rfl)) ?_)
          rintro _ w ⟨rfl, hP1, cw⟩
          first
          | replace st := St.prs (b := c.pb) st 0 rfl cw (.inl (.head _)) hP1
          | replace st := St.prs (b := c.pb) st 1 rfl cw (.inl (.head _)) hP1
          | replace st := St.prs (b := c.pb) st 2 rfl cw (.inl (.head _)) hP1
          | replace st := St.prs (b := c.pb) st 3 rfl cw (.inl (.head _)) hP1
          | replace st := St.prs (b := c.pb) st 4 rfl cw (.inl (.head _)) hP1
          | replace st := St.prs (b := c.pb) st 5 rfl cw (.inl (.head _)) hP1
          | replace st := St.prs (b := c.pb) st 6 rfl cw (.inl (.head _)) hP1
          | replace st := St.prs (b := c.pb) st 7 rfl cw (.inl (.head _)) hP1
          | replace st := St.prs (b := c.pb) st 8 rfl cw (.inl (.head _)) hP1
          | replace st := St.prs (b := c.pb) st 9 rfl cw (.inl (.head _)) hP1
          dsimp only [setNth] at st
          refine vc_end ?_
          refine vq_then ?_
          refine vc_keep [(4, _), (5, _)] ⟨rfl, rfl, trivial⟩ ?_
          refine vc_seq ?_
          refine vc_region ?_
          refine vc_y rfl rfl ((by exact y_faz (k := 1) rfl Tryd.underlying53 rfl rfl Tryd.sizeOf9 rfl)) ?_
          refine vc_y rfl rfl ((by exact y_ld st 0 rfl Tryd.isAgg9 rfl rfl)) ?_
          refine vc_y rfl rfl ((by exact y_faz (k := 3) rfl Tryd.underlying53 rfl rfl Tryd.sizeOf3 rfl)) ?_
          refine vc_y rfl rfl ((by exact y_ld st 0 rfl Tryd.isAgg3 rfl rfl)) ?_
          refine vc_y rfl rfl (y_bld (.agg #[_, _, _, _, _, _]) [(0, _), (3, _), (5, _)] rfl (fun w => by simp [Instr.build, go_sem] <;> repeat' constructor)) ?_
          refine vc_e (e_sts (vs := [_, _, _, _, _, _]) st 1 rfl rfl rfl rfl rfl Tryd.sizeOf26 rfl rfl (by first | (right; assumption) | (left; simp)) ?_)
          intro w st; dsimp only [setNth, wr] at st
          refine vc_end ?_
          refine vq_then ?_
          refine vc_keep [(4, _)] ⟨rfl, trivial⟩ ?_
          refine vc_ret ?_
          refine vq_block_ret ?_
          refine vq_then_ret ?_
          refine vq_ret1 st (.inl rfl) Tryd.results57 (by exact .cell 1 rfl rfl Tryd.isAgg26 Tryd.sizeOf26) ?_
          refine .inl ⟨_, rfl, ?_⟩
          exact ⟨_, _, hs, List.tail_suffix _, tail_lt hne, (by exact st.res (i := 2) rfl), st.chg, none, 0, [], rfl, ⟨[], [], World.ownsRow_nil _ _ _ _, rfl, rfl, rfl⟩, Nw.nil⟩
        · intro hc40
          try simp only [dn] at hc40
          refine vc_seq ?_
          refine vc_region ?_
          refine vc_y rfl rfl (y_mv rfl) ?_
          refine vc_y rfl rfl (y_not rfl) ?_
          refine vc_y rfl rfl (y_as rfl) ?_
          refine vc_end ?_
          refine vq_then ?_
          refine vc_keep [(0, _), (1, _), (4, _), (5, _), (51, _)] ⟨rfl, rfl, rfl, rfl, rfl, trivial⟩ ?_
          refine vc_ifs rfl ?_ ?_
          · intro hc51
            try simp only [dn] at hc51
            have hs := (unary_out (e := c.e) (m := m) hin.symm).trans (show leafP c.e r = fail c.e 2 r by unfold leafP; rw [if_neg (by omega), if_neg (by omega)])
            refine vc_region ?_
            refine vc_y rfl rfl (y_mv rfl) ?_
            refine vc_e (e_callp [_, _] rfl rfl Tryd.call30 rfl (pfail_any c 2 r hr _ (hC.k1 st.chg) (by exact st.res (i := 2) rfl) hR) (by rintro _ w' ⟨rfl, ch⟩ a ha; exact And.intro ha (Or.inr ⟨_, rfl, (atT c.e r, 2), by rw [hs]; rfl, rfl, st.chg.trans ch.of_nil⟩)) (fun _ _ h => h.elim))
          · intro hc51
            exfalso; revert hc51; simp

end Go.Proofs.YtggnfanphcaamaaDoor

