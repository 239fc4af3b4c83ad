/- A part of the proof: contracts of functions and plain laws; each theorem says its own conditions. -/
import Derived.Test.YtnmhlpnapgojjaaDoorK3
namespace Go.Proofs.YtnmhlpnapgojjaaDoor
open Go.RowKit Sx LexS _root_.Go.Proofs.Tryd
set_option linter.unusedVariables false
set_option linter.unusedSimpArgs false
section
variable {S : Nat → Prop}

theorem rinner_any (op : Int) (hop : u8 op) (x : Ex) (b : Bool) (o : Option Addr) (c : Nat) (w : World) (hx : OkE x) : Ret Tryd.prog 119 [.int .u8 op, .agg (exL x o c).toArray, .bool b] w fun v w' => v = .bool (inn op x b) ∧ Chg [] w w' := by
 refine ret_of [_, _, _] func119 rfl ntmps119 rfl ?_
 have st := St.init w []
 refine vc_seq (vc_region ?_)
 refine vc_e (e_bx (l := [_, _, _, _, _, _]) st rfl rfl rfl rfl ?_)
 intro b4 w hb4 st
 refine vc_y rfl rfl (y_as rfl) ?_
 refine vc_end (vq_then (vc_keep [(0, _), (2, _), (4, _)] ⟨rfl, rfl, rfl, trivial⟩ (vc_seq (vc_seq (vc_region ?_)))))
 refine vc_y rfl rfl (y_fa0 rfl underlying63 rfl rfl sizeOf59 rfl) ?_
 refine vc_y rfl rfl ((by exact y_ld st 0 rfl isAgg59 rfl rfl)) ?_
 refine vc_y rfl rfl (y_nei rfl rfl) ?_
 refine vc_end (vq_then (vc_keep [(0, _), (2, _), (4, _), (11, _)] ⟨rfl, rfl, rfl, rfl, trivial⟩ ?_))
 refine vc_ifs rfl ?_ ?_
 ·
  intro hc11
  try simp only [dn] at hc11
  refine vc_seq (vc_region ?_)
  refine vc_y rfl rfl (y_as rfl) ?_
  refine vc_end (vq_then (vc_keep [(6, _)] ⟨rfl, trivial⟩ (vc_ret (vq_then_ret ?_))))
  refine vq_ret1 st (.inl rfl) results119 (.tmp rfl) ?_
  refine ⟨_, rfl, ?_⟩
  refine ⟨?_, st.chg⟩
  show Value.bool _ = Value.bool _
  congr 1
  symm
  first
   | exact inn_n (by assumption)
   | (cases b <;> first | rw [inn_f (by assumption)] | rw [inn_t (by assumption)]
      all_goals (clear st; rw [Bool.eq_iff_iff]; simp_all <;> omega))
 ·
  intro hc11
  try simp only [dn] at hc11
  refine vc_code_skip (vq_then (vc_keep [(0, _), (2, _), (4, _)] ⟨rfl, rfl, rfl, trivial⟩ (vc_seq (vc_region ?_))))
  refine vc_y rfl rfl ((by exact y_faz (k := 1) rfl underlying63 rfl rfl sizeOf60 rfl)) ?_
  refine vc_y rfl rfl ((by exact y_ld st 0 rfl isAgg60 rfl rfl)) ?_
  refine vc_e (e_call [_] rfl rfl call132 rfl (rlevel_any _ hx.op.1 _) ?_)
  rintro _ w ⟨rfl, cw⟩
  replace st := st.call0 cw
  refine vc_y rfl rfl (y_mv rfl) ?_
  refine vc_e (e_call [_] rfl rfl call132 rfl (rlevel_any _ hop.1 _) ?_)
  rintro _ w ⟨rfl, cw⟩
  replace st := st.call0 cw
  iterate 2 refine vc_y rfl rfl (y_as rfl) ?_
  refine vc_end (vq_then (vc_keep [(2, _), (7, _), (8, _)] ⟨rfl, rfl, rfl, trivial⟩ (vc_seq (vc_region ?_))))
  iterate 2 refine vc_y rfl rfl (y_mv rfl) ?_
  refine vc_y rfl rfl (y_lss rfl rfl) ?_
  refine vc_e (e_mvb rfl rfl rfl ?_ ?_)
  ·
   intro hg20
   try simp only [dn] at hg20
   iterate 6 refine vc_e (e_skip rfl rfl ?_)
   refine vc_y rfl rfl (y_pickt rfl rfl) ?_
   refine vc_y rfl rfl (y_as rfl) ?_
   refine vc_end (vq_then (vc_keep [(6, _)] ⟨rfl, trivial⟩ (vc_ret ?_)))
   refine vq_ret1 st (.inl rfl) results119 (.tmp rfl) ?_
   refine ⟨_, rfl, ?_⟩
   refine ⟨?_, st.chg⟩
   show Value.bool _ = Value.bool _
   congr 1
   symm
   first
    | exact inn_n (by assumption)
    | (cases b <;> first | rw [inn_f (by assumption)] | rw [inn_t (by assumption)]
       all_goals (clear st; rw [Bool.eq_iff_iff]; simp_all <;> omega))
  ·
   intro hg20
   try simp only [dn] at hg20
   refine vc_y rfl rfl (y_mv rfl) ?_
   refine vc_e (e_mvb rfl rfl rfl ?_ ?_)
   ·
    intro hg22
    try simp only [dn] at hg22
    iterate 2 refine vc_y rfl rfl (y_mv rfl) ?_
    refine vc_y rfl rfl (y_eqi rfl rfl) ?_
    refine vc_y rfl rfl (y_pickt rfl rfl) ?_
    refine vc_y rfl rfl (y_pickf rfl rfl) ?_
    refine vc_y rfl rfl (y_as rfl) ?_
    refine vc_end (vq_then (vc_keep [(6, _)] ⟨rfl, trivial⟩ (vc_ret ?_)))
    refine vq_ret1 st (.inl rfl) results119 (.tmp rfl) ?_
    refine ⟨_, rfl, ?_⟩
    refine ⟨?_, st.chg⟩
    show Value.bool _ = Value.bool _
    congr 1
    symm
    first
     | exact inn_n (by assumption)
     | (cases b <;> first | rw [inn_f (by assumption)] | rw [inn_t (by assumption)]
        all_goals (clear st; rw [Bool.eq_iff_iff]; simp_all <;> omega))
   ·
    intro hg22
    try simp only [dn] at hg22
    iterate 3 refine vc_e (e_skip rfl rfl ?_)
    iterate 2 refine vc_y rfl rfl (y_pickf rfl rfl) ?_
    refine vc_y rfl rfl (y_as rfl) ?_
    refine vc_end (vq_then (vc_keep [(6, _)] ⟨rfl, trivial⟩ (vc_ret ?_)))
    refine vq_ret1 st (.inl rfl) results119 (.tmp rfl) ?_
    refine ⟨_, rfl, ?_⟩
    refine ⟨?_, st.chg⟩
    show Value.bool _ = Value.bool _
    congr 1
    symm
    first
     | exact inn_n (by assumption)
     | (cases b <;> first | rw [inn_f (by assumption)] | rw [inn_t (by assumption)]
        all_goals (clear st; rw [Bool.eq_iff_iff]; simp_all <;> omega))

theorem rightE_loop {e x y : Ex} {d : Nat} (h : e.k = 4) (hd : d ≤ 64) (h2 : e.kids.length = 2) (hx : e.kids[0]? = some x) (hy : e.kids[1]? = some y) (h3 : twoOp e.op = true) (h4 : e.wd = 0) (h5 : e.nm = []) :
    rightE e d = (rightE x (if inn e.op x false = true then d + 1 else d) && rightE y (if inn e.op y true = true then d + 1 else d)) := by
 rw [rightE_4 h hd (two_form h2 hx hy), h3]; simp [h4, h5]
def kidOk (e : Ex) (d j : Nat) : Prop := ∀ z, e.kids[j]? = some z → rightE z (if inn e.op z (decide ((j : Int) = 1)) = true then d + 1 else d) = true

set_option maxHeartbeats 2000000 in
theorem rexpr_any : ∀ (n : Nat) (e : Ex), szo e = n → ∀ (d : Nat) (l : List Value) (w : World), ExV w S e l → OkE e → d ≤ 1000 → Ret Tryd.prog 116 [.agg l.toArray, .int .i64 (d : Int)] w fun v w' => v = .bool (rightE e d) ∧ Chg [] w w' := by
 intro n
 refine Nat.strongRecOn n fun n ih => ?_
 intro e hn d l w hV hok hdb
 subst hn
 obtain ⟨oa, cap, rfl, hr⟩ := ExV.inv hV
 refine ret_of [_, _] func116 rfl ntmps116 rfl ?_
 have st := St.init w []
 obtain ⟨w0, rfl⟩ : ∃ w0, w0 = w := ⟨_, rfl⟩
 refine vc_seq (vc_region ?_)
 refine vc_e (e_bx (l := [_, _, _, _, _, _]) st rfl rfl rfl rfl ?_)
 intro b2 w hb2 st
 refine vc_y rfl rfl (y_as rfl) ?_
 refine vc_end (vq_then (vc_keep [(1, _), (2, _)] ⟨rfl, rfl, trivial⟩ (vc_seq (vc_seq (vc_region ?_)))))
 refine vc_y rfl rfl (y_mv rfl) ?_
 refine vc_y rfl rfl (y_gtr rfl rfl) ?_
 refine vc_end (vq_then (vc_keep [(1, _), (2, _), (8, _)] ⟨rfl, rfl, rfl, trivial⟩ ?_))
 refine vc_ifs rfl ?_ ?_
 ·
  intro hc8
  try simp only [dn] at hc8
  refine vc_seq (vc_region ?_)
  refine vc_y rfl rfl (y_as rfl) ?_
  refine vc_end (vq_then (vc_keep [(4, _)] ⟨rfl, trivial⟩ (vc_ret (vq_then_ret ?_))))
  refine vq_ret1 st (.inl rfl) results116 (.tmp rfl) ?_
  refine ⟨_, rfl, ?_⟩
  refine ⟨?_, st.chg⟩
  rw [rightE_big (by omega)]
 ·
  intro hc8
  try simp only [dn] at hc8
  have hd : d ≤ 64 := by omega
  refine vc_code_skip (vq_then (vc_keep [(1, _), (2, _)] ⟨rfl, rfl, trivial⟩ (vc_seq (vc_seq (vc_region ?_)))))
  refine vc_y rfl rfl (y_fa0 rfl underlying63 rfl rfl sizeOf59 rfl) ?_
  refine vc_y rfl rfl ((by exact y_ld st 0 rfl isAgg59 rfl rfl)) ?_
  refine vc_end (vq_then (vc_keep [(1, _), (2, _), (10, _)] ⟨rfl, rfl, rfl, trivial⟩ (vc_block (vc_seq (vc_region ?_)))))
  refine vc_y rfl rfl (y_eqi rfl rfl) ?_
  refine vc_y rfl rfl (y_as rfl) ?_
  refine vc_end (vq_then (vc_keep [(1, _), (2, _), (10, _), (11, _)] ⟨rfl, rfl, rfl, rfl, trivial⟩ ?_))
  refine vc_ifs rfl ?_ ?_
  ·
   intro hc11
   try simp only [dn] at hc11
   refine vc_seq (vc_region ?_)
   refine vc_y rfl rfl ((by exact y_faz (k := 2) rfl underlying63 rfl rfl sizeOf2 rfl)) ?_
   refine vc_y rfl rfl ((by exact y_ld st 0 rfl isAgg2 rfl rfl)) ?_
   refine vc_y rfl rfl (y_geq rfl rfl) ?_
   refine vc_e (e_mvb rfl rfl rfl ?_ ?_)
   ·
    intro hg16
    try simp only [dn] at hg16
    refine vc_y rfl rfl ((by exact y_faz (k := 1) rfl underlying63 rfl rfl sizeOf60 rfl)) ?_
    refine vc_y rfl rfl ((by exact y_ld st 0 rfl isAgg60 rfl rfl)) ?_
    refine vc_y rfl rfl (y_eqi rfl rfl) ?_
    refine vc_y rfl rfl (y_pickt rfl rfl) ?_
    refine vc_e (e_mvb rfl rfl rfl ?_ ?_)
    ·
     intro hg21
     try simp only [dn] at hg21
     refine vc_y rfl rfl ((by exact y_faz (k := 3) rfl underlying63 rfl rfl sizeOf9 rfl)) ?_
     refine vc_y rfl rfl ((by exact y_ld st 0 rfl isAgg9 rfl rfl)) ?_
     refine vc_y rfl rfl (y_eqs rfl rfl) ?_
     refine vc_y rfl rfl (y_pickt rfl rfl) ?_
     refine vc_e (e_mvb rfl rfl rfl ?_ ?_)
     ·
      intro hg26
      try simp only [dn] at hg26
      refine vc_y rfl rfl ((by exact y_faz (k := 4) rfl underlying63 rfl rfl sizeOf61 rfl)) ?_
      refine vc_y rfl rfl ((by exact y_ld st 0 rfl isAgg61 rfl rfl)) ?_
      refine vc_y rfl rfl (y_lensl rfl underlying61) ?_
      refine vc_y rfl rfl (y_eqi rfl rfl) ?_
      refine vc_y rfl rfl (y_pickt rfl rfl) ?_
      refine vc_y rfl rfl (y_as rfl) ?_
      refine vc_end (vq_then (vc_keep [(4, _)] ⟨rfl, trivial⟩ (vc_ret (vq_block_ret (vq_then_ret ?_)))))
      refine vq_ret1 st (.inl rfl) results116 (.tmp rfl) ?_
      refine ⟨_, rfl, ?_⟩
      refine ⟨?_, st.chg⟩
      show Value.bool _ = Value.bool _
      congr 1
      clear st
      symm
      first
       | (rw [rightE_1 (e := e) (by assumption) hd]; clear hV hr ih hok; rw [Bool.eq_iff_iff]; simp_all <;> omega)
       | (rw [rightE_2 (e := e) (by assumption) hd]; clear hV hr ih hok; rw [Bool.eq_iff_iff]; simp_all <;> omega)
       | exact rightE_0 (e := e) (by assumption) (by assumption) (by assumption) (by assumption)
       | exact rightE_3n (e := e) (by assumption) (by first | exact .inl (by omega) | exact .inr (.inr (.inl (by assumption))) | exact .inr (.inr (.inr (by assumption))) | exact .inr (.inl (by assumption)))
       | exact rightE_4n (e := e) (by assumption) (by first | exact .inl (by omega) | exact .inr (.inr (.inl (by assumption))) | exact .inr (.inr (.inr (by assumption))) | exact .inr (.inl (by assumption)))
       | (rw [rightE_3 (e := e) (by assumption) hd (one_form (by omega) hx)]; first | rw [if_pos (by assumption)] | rw [if_neg (by assumption)]
          first | (rw [rightE_big (e := x) (by omega)]; simp) | (clear hV hr ih hok hg hc0 hV0 hr0; simp_all))
       | (rw [rightE_loop (e := e) (by assumption) hd hk2 hx hy (by assumption) (by assumption) (by assumption)]
          rcases Nat.lt_or_ge j 2 with hj2 | hj2
          · first
              | (exfalso; omega)
              | (rcases (show j = 0 ∨ j = 1 by omega) with h | h
                 · subst h; rw [hz] at hx; cases hx; simp_all
                 · subst h; rw [hz] at hy; cases hy; simp_all)
          · first
              | (exfalso; omega)
              | (have h0 := hdone 0 (by omega) x hx
                 have h1 := hdone 1 (by omega) y hy
                 simp at h0 h1
                 simp [h0, h1]))
     ·
      intro hg26
      try simp only [dn] at hg26
      iterate 4 refine vc_e (e_skip rfl rfl ?_)
      refine vc_y rfl rfl (y_pickf rfl rfl) ?_
      refine vc_y rfl rfl (y_as rfl) ?_
      refine vc_end (vq_then (vc_keep [(4, _)] ⟨rfl, trivial⟩ (vc_ret (vq_block_ret (vq_then_ret ?_)))))
      refine vq_ret1 st (.inl rfl) results116 (.tmp rfl) ?_
      refine ⟨_, rfl, ?_⟩
      refine ⟨?_, st.chg⟩
      show Value.bool _ = Value.bool _
      congr 1
      clear st
      symm
      first
       | (rw [rightE_1 (e := e) (by assumption) hd]; clear hV hr ih hok; rw [Bool.eq_iff_iff]; simp_all <;> omega)
       | (rw [rightE_2 (e := e) (by assumption) hd]; clear hV hr ih hok; rw [Bool.eq_iff_iff]; simp_all <;> omega)
       | exact rightE_0 (e := e) (by assumption) (by assumption) (by assumption) (by assumption)
       | exact rightE_3n (e := e) (by assumption) (by first | exact .inl (by omega) | exact .inr (.inr (.inl (by assumption))) | exact .inr (.inr (.inr (by assumption))) | exact .inr (.inl (by assumption)))
       | exact rightE_4n (e := e) (by assumption) (by first | exact .inl (by omega) | exact .inr (.inr (.inl (by assumption))) | exact .inr (.inr (.inr (by assumption))) | exact .inr (.inl (by assumption)))
       | (rw [rightE_3 (e := e) (by assumption) hd (one_form (by omega) hx)]; first | rw [if_pos (by assumption)] | rw [if_neg (by assumption)]
          first | (rw [rightE_big (e := x) (by omega)]; simp) | (clear hV hr ih hok hg hc0 hV0 hr0; simp_all))
       | (rw [rightE_loop (e := e) (by assumption) hd hk2 hx hy (by assumption) (by assumption) (by assumption)]
          rcases Nat.lt_or_ge j 2 with hj2 | hj2
          · first
              | (exfalso; omega)
              | (rcases (show j = 0 ∨ j = 1 by omega) with h | h
                 · subst h; rw [hz] at hx; cases hx; simp_all
                 · subst h; rw [hz] at hy; cases hy; simp_all)
          · first
              | (exfalso; omega)
              | (have h0 := hdone 0 (by omega) x hx
                 have h1 := hdone 1 (by omega) y hy
                 simp at h0 h1
                 simp [h0, h1]))
    ·
     intro hg21
     try simp only [dn] at hg21
     iterate 3 refine vc_e (e_skip rfl rfl ?_)
     refine vc_y rfl rfl (y_pickf rfl rfl) ?_
     refine vc_y rfl rfl (y_mv rfl) ?_
     iterate 4 refine vc_e (e_skip rfl rfl ?_)
     refine vc_y rfl rfl (y_pickf rfl rfl) ?_
     refine vc_y rfl rfl (y_as rfl) ?_
     refine vc_end (vq_then (vc_keep [(4, _)] ⟨rfl, trivial⟩ (vc_ret (vq_block_ret (vq_then_ret ?_)))))
     refine vq_ret1 st (.inl rfl) results116 (.tmp rfl) ?_
     refine ⟨_, rfl, ?_⟩
     refine ⟨?_, st.chg⟩
     show Value.bool _ = Value.bool _
     congr 1
     clear st
     symm
     first
      | (rw [rightE_1 (e := e) (by assumption) hd]; clear hV hr ih hok; rw [Bool.eq_iff_iff]; simp_all <;> omega)
      | (rw [rightE_2 (e := e) (by assumption) hd]; clear hV hr ih hok; rw [Bool.eq_iff_iff]; simp_all <;> omega)
      | exact rightE_0 (e := e) (by assumption) (by assumption) (by assumption) (by assumption)
      | exact rightE_3n (e := e) (by assumption) (by first | exact .inl (by omega) | exact .inr (.inr (.inl (by assumption))) | exact .inr (.inr (.inr (by assumption))) | exact .inr (.inl (by assumption)))
      | exact rightE_4n (e := e) (by assumption) (by first | exact .inl (by omega) | exact .inr (.inr (.inl (by assumption))) | exact .inr (.inr (.inr (by assumption))) | exact .inr (.inl (by assumption)))
      | (rw [rightE_3 (e := e) (by assumption) hd (one_form (by omega) hx)]; first | rw [if_pos (by assumption)] | rw [if_neg (by assumption)]
         first | (rw [rightE_big (e := x) (by omega)]; simp) | (clear hV hr ih hok hg hc0 hV0 hr0; simp_all))
      | (rw [rightE_loop (e := e) (by assumption) hd hk2 hx hy (by assumption) (by assumption) (by assumption)]
         rcases Nat.lt_or_ge j 2 with hj2 | hj2
         · first
             | (exfalso; omega)
             | (rcases (show j = 0 ∨ j = 1 by omega) with h | h
                · subst h; rw [hz] at hx; cases hx; simp_all
                · subst h; rw [hz] at hy; cases hy; simp_all)
         · first
             | (exfalso; omega)
             | (have h0 := hdone 0 (by omega) x hx
                have h1 := hdone 1 (by omega) y hy
                simp at h0 h1
                simp [h0, h1]))
   ·
    intro hg16
    try simp only [dn] at hg16
    iterate 3 refine vc_e (e_skip rfl rfl ?_)
    refine vc_y rfl rfl (y_pickf rfl rfl) ?_
    refine vc_y rfl rfl (y_mv rfl) ?_
    iterate 3 refine vc_e (e_skip rfl rfl ?_)
    refine vc_y rfl rfl (y_pickf rfl rfl) ?_
    refine vc_y rfl rfl (y_mv rfl) ?_
    iterate 4 refine vc_e (e_skip rfl rfl ?_)
    refine vc_y rfl rfl (y_pickf rfl rfl) ?_
    refine vc_y rfl rfl (y_as rfl) ?_
    refine vc_end (vq_then (vc_keep [(4, _)] ⟨rfl, trivial⟩ (vc_ret (vq_block_ret (vq_then_ret ?_)))))
    refine vq_ret1 st (.inl rfl) results116 (.tmp rfl) ?_
    refine ⟨_, rfl, ?_⟩
    refine ⟨?_, st.chg⟩
    show Value.bool _ = Value.bool _
    congr 1
    clear st
    symm
    first
     | (rw [rightE_1 (e := e) (by assumption) hd]; clear hV hr ih hok; rw [Bool.eq_iff_iff]; simp_all <;> omega)
     | (rw [rightE_2 (e := e) (by assumption) hd]; clear hV hr ih hok; rw [Bool.eq_iff_iff]; simp_all <;> omega)
     | exact rightE_0 (e := e) (by assumption) (by assumption) (by assumption) (by assumption)
     | exact rightE_3n (e := e) (by assumption) (by first | exact .inl (by omega) | exact .inr (.inr (.inl (by assumption))) | exact .inr (.inr (.inr (by assumption))) | exact .inr (.inl (by assumption)))
     | exact rightE_4n (e := e) (by assumption) (by first | exact .inl (by omega) | exact .inr (.inr (.inl (by assumption))) | exact .inr (.inr (.inr (by assumption))) | exact .inr (.inl (by assumption)))
     | (rw [rightE_3 (e := e) (by assumption) hd (one_form (by omega) hx)]; first | rw [if_pos (by assumption)] | rw [if_neg (by assumption)]
        first | (rw [rightE_big (e := x) (by omega)]; simp) | (clear hV hr ih hok hg hc0 hV0 hr0; simp_all))
     | (rw [rightE_loop (e := e) (by assumption) hd hk2 hx hy (by assumption) (by assumption) (by assumption)]
        rcases Nat.lt_or_ge j 2 with hj2 | hj2
        · first
            | (exfalso; omega)
            | (rcases (show j = 0 ∨ j = 1 by omega) with h | h
               · subst h; rw [hz] at hx; cases hx; simp_all
               · subst h; rw [hz] at hy; cases hy; simp_all)
        · first
            | (exfalso; omega)
            | (have h0 := hdone 0 (by omega) x hx
               have h1 := hdone 1 (by omega) y hy
               simp at h0 h1
               simp [h0, h1]))
  ·
   intro hc11
   try simp only [dn] at hc11
   refine vc_seq (vc_region ?_)
   refine vc_y rfl rfl (y_eqi rfl rfl) ?_
   refine vc_y rfl rfl (y_as rfl) ?_
   refine vc_end (vq_then (vc_keep [(1, _), (2, _), (10, _), (32, _)] ⟨rfl, rfl, rfl, rfl, trivial⟩ ?_))
   refine vc_ifs rfl ?_ ?_
   ·
    intro hc32
    try simp only [dn] at hc32
    refine vc_seq (vc_region ?_)
    refine vc_y rfl rfl ((by exact y_faz (k := 3) rfl underlying63 rfl rfl sizeOf9 rfl)) ?_
    refine vc_y rfl rfl ((by exact y_ld st 0 rfl isAgg9 rfl rfl)) ?_
    refine vc_e (e_call [_] rfl rfl call57 rfl (rname_any _ _) ?_)
    rintro _ _ ⟨rfl, rfl⟩
    refine vc_e (e_mvb rfl rfl rfl ?_ ?_)
    ·
     intro hg37
     try simp only [dn] at hg37
     refine vc_y rfl rfl ((by exact y_faz (k := 1) rfl underlying63 rfl rfl sizeOf60 rfl)) ?_
     refine vc_y rfl rfl ((by exact y_ld st 0 rfl isAgg60 rfl rfl)) ?_
     refine vc_y rfl rfl (y_eqi rfl rfl) ?_
     refine vc_y rfl rfl (y_pickt rfl rfl) ?_
     refine vc_e (e_mvb rfl rfl rfl ?_ ?_)
     ·
      intro hg42
      try simp only [dn] at hg42
      refine vc_y rfl rfl ((by exact y_faz (k := 2) rfl underlying63 rfl rfl sizeOf2 rfl)) ?_
      refine vc_y rfl rfl ((by exact y_ld st 0 rfl isAgg2 rfl rfl)) ?_
      refine vc_y rfl rfl (y_eqi rfl rfl) ?_
      refine vc_y rfl rfl (y_pickt rfl rfl) ?_
      refine vc_e (e_mvb rfl rfl rfl ?_ ?_)
      ·
       intro hg47
       try simp only [dn] at hg47
       refine vc_y rfl rfl ((by exact y_faz (k := 4) rfl underlying63 rfl rfl sizeOf61 rfl)) ?_
       refine vc_y rfl rfl ((by exact y_ld st 0 rfl isAgg61 rfl rfl)) ?_
       refine vc_y rfl rfl (y_lensl rfl underlying61) ?_
       refine vc_y rfl rfl (y_eqi rfl rfl) ?_
       refine vc_y rfl rfl (y_pickt rfl rfl) ?_
       refine vc_y rfl rfl (y_as rfl) ?_
       refine vc_end (vq_then (vc_keep [(4, _)] ⟨rfl, trivial⟩ (vc_ret (vq_block_ret (vq_then_ret ?_)))))
       refine vq_ret1 st (.inl rfl) results116 (.tmp rfl) ?_
       refine ⟨_, rfl, ?_⟩
       refine ⟨?_, st.chg⟩
       show Value.bool _ = Value.bool _
       congr 1
       clear st
       symm
       first
        | (rw [rightE_1 (e := e) (by assumption) hd]; clear hV hr ih hok; rw [Bool.eq_iff_iff]; simp_all <;> omega)
        | (rw [rightE_2 (e := e) (by assumption) hd]; clear hV hr ih hok; rw [Bool.eq_iff_iff]; simp_all <;> omega)
        | exact rightE_0 (e := e) (by assumption) (by assumption) (by assumption) (by assumption)
        | exact rightE_3n (e := e) (by assumption) (by first | exact .inl (by omega) | exact .inr (.inr (.inl (by assumption))) | exact .inr (.inr (.inr (by assumption))) | exact .inr (.inl (by assumption)))
        | exact rightE_4n (e := e) (by assumption) (by first | exact .inl (by omega) | exact .inr (.inr (.inl (by assumption))) | exact .inr (.inr (.inr (by assumption))) | exact .inr (.inl (by assumption)))
        | (rw [rightE_3 (e := e) (by assumption) hd (one_form (by omega) hx)]; first | rw [if_pos (by assumption)] | rw [if_neg (by assumption)]
           first | (rw [rightE_big (e := x) (by omega)]; simp) | (clear hV hr ih hok hg hc0 hV0 hr0; simp_all))
        | (rw [rightE_loop (e := e) (by assumption) hd hk2 hx hy (by assumption) (by assumption) (by assumption)]
           rcases Nat.lt_or_ge j 2 with hj2 | hj2
           · first
               | (exfalso; omega)
               | (rcases (show j = 0 ∨ j = 1 by omega) with h | h
                  · subst h; rw [hz] at hx; cases hx; simp_all
                  · subst h; rw [hz] at hy; cases hy; simp_all)
           · first
               | (exfalso; omega)
               | (have h0 := hdone 0 (by omega) x hx
                  have h1 := hdone 1 (by omega) y hy
                  simp at h0 h1
                  simp [h0, h1]))
      ·
       intro hg47
       try simp only [dn] at hg47
       iterate 4 refine vc_e (e_skip rfl rfl ?_)
       refine vc_y rfl rfl (y_pickf rfl rfl) ?_
       refine vc_y rfl rfl (y_as rfl) ?_
       refine vc_end (vq_then (vc_keep [(4, _)] ⟨rfl, trivial⟩ (vc_ret (vq_block_ret (vq_then_ret ?_)))))
       refine vq_ret1 st (.inl rfl) results116 (.tmp rfl) ?_
       refine ⟨_, rfl, ?_⟩
       refine ⟨?_, st.chg⟩
       show Value.bool _ = Value.bool _
       congr 1
       clear st
       symm
       first
        | (rw [rightE_1 (e := e) (by assumption) hd]; clear hV hr ih hok; rw [Bool.eq_iff_iff]; simp_all <;> omega)
        | (rw [rightE_2 (e := e) (by assumption) hd]; clear hV hr ih hok; rw [Bool.eq_iff_iff]; simp_all <;> omega)
        | exact rightE_0 (e := e) (by assumption) (by assumption) (by assumption) (by assumption)
        | exact rightE_3n (e := e) (by assumption) (by first | exact .inl (by omega) | exact .inr (.inr (.inl (by assumption))) | exact .inr (.inr (.inr (by assumption))) | exact .inr (.inl (by assumption)))
        | exact rightE_4n (e := e) (by assumption) (by first | exact .inl (by omega) | exact .inr (.inr (.inl (by assumption))) | exact .inr (.inr (.inr (by assumption))) | exact .inr (.inl (by assumption)))
        | (rw [rightE_3 (e := e) (by assumption) hd (one_form (by omega) hx)]; first | rw [if_pos (by assumption)] | rw [if_neg (by assumption)]
           first | (rw [rightE_big (e := x) (by omega)]; simp) | (clear hV hr ih hok hg hc0 hV0 hr0; simp_all))
        | (rw [rightE_loop (e := e) (by assumption) hd hk2 hx hy (by assumption) (by assumption) (by assumption)]
           rcases Nat.lt_or_ge j 2 with hj2 | hj2
           · first
               | (exfalso; omega)
               | (rcases (show j = 0 ∨ j = 1 by omega) with h | h
                  · subst h; rw [hz] at hx; cases hx; simp_all
                  · subst h; rw [hz] at hy; cases hy; simp_all)
           · first
               | (exfalso; omega)
               | (have h0 := hdone 0 (by omega) x hx
                  have h1 := hdone 1 (by omega) y hy
                  simp at h0 h1
                  simp [h0, h1]))
     ·
      intro hg42
      try simp only [dn] at hg42
      iterate 3 refine vc_e (e_skip rfl rfl ?_)
      refine vc_y rfl rfl (y_pickf rfl rfl) ?_
      refine vc_y rfl rfl (y_mv rfl) ?_
      iterate 4 refine vc_e (e_skip rfl rfl ?_)
      refine vc_y rfl rfl (y_pickf rfl rfl) ?_
      refine vc_y rfl rfl (y_as rfl) ?_
      refine vc_end (vq_then (vc_keep [(4, _)] ⟨rfl, trivial⟩ (vc_ret (vq_block_ret (vq_then_ret ?_)))))
      refine vq_ret1 st (.inl rfl) results116 (.tmp rfl) ?_
      refine ⟨_, rfl, ?_⟩
      refine ⟨?_, st.chg⟩
      show Value.bool _ = Value.bool _
      congr 1
      clear st
      symm
      first
       | (rw [rightE_1 (e := e) (by assumption) hd]; clear hV hr ih hok; rw [Bool.eq_iff_iff]; simp_all <;> omega)
       | (rw [rightE_2 (e := e) (by assumption) hd]; clear hV hr ih hok; rw [Bool.eq_iff_iff]; simp_all <;> omega)
       | exact rightE_0 (e := e) (by assumption) (by assumption) (by assumption) (by assumption)
       | exact rightE_3n (e := e) (by assumption) (by first | exact .inl (by omega) | exact .inr (.inr (.inl (by assumption))) | exact .inr (.inr (.inr (by assumption))) | exact .inr (.inl (by assumption)))
       | exact rightE_4n (e := e) (by assumption) (by first | exact .inl (by omega) | exact .inr (.inr (.inl (by assumption))) | exact .inr (.inr (.inr (by assumption))) | exact .inr (.inl (by assumption)))
       | (rw [rightE_3 (e := e) (by assumption) hd (one_form (by omega) hx)]; first | rw [if_pos (by assumption)] | rw [if_neg (by assumption)]
          first | (rw [rightE_big (e := x) (by omega)]; simp) | (clear hV hr ih hok hg hc0 hV0 hr0; simp_all))
       | (rw [rightE_loop (e := e) (by assumption) hd hk2 hx hy (by assumption) (by assumption) (by assumption)]
          rcases Nat.lt_or_ge j 2 with hj2 | hj2
          · first
              | (exfalso; omega)
              | (rcases (show j = 0 ∨ j = 1 by omega) with h | h
                 · subst h; rw [hz] at hx; cases hx; simp_all
                 · subst h; rw [hz] at hy; cases hy; simp_all)
          · first
              | (exfalso; omega)
              | (have h0 := hdone 0 (by omega) x hx
                 have h1 := hdone 1 (by omega) y hy
                 simp at h0 h1
                 simp [h0, h1]))
    ·
     intro hg37
     try simp only [dn] at hg37
     iterate 3 refine vc_e (e_skip rfl rfl ?_)
     refine vc_y rfl rfl (y_pickf rfl rfl) ?_
     refine vc_y rfl rfl (y_mv rfl) ?_
     iterate 3 refine vc_e (e_skip rfl rfl ?_)
     refine vc_y rfl rfl (y_pickf rfl rfl) ?_
     refine vc_y rfl rfl (y_mv rfl) ?_
     iterate 4 refine vc_e (e_skip rfl rfl ?_)
     refine vc_y rfl rfl (y_pickf rfl rfl) ?_
     refine vc_y rfl rfl (y_as rfl) ?_
     refine vc_end (vq_then (vc_keep [(4, _)] ⟨rfl, trivial⟩ (vc_ret (vq_block_ret (vq_then_ret ?_)))))
     refine vq_ret1 st (.inl rfl) results116 (.tmp rfl) ?_
     refine ⟨_, rfl, ?_⟩
     refine ⟨?_, st.chg⟩
     show Value.bool _ = Value.bool _
     congr 1
     clear st
     symm
     first
      | (rw [rightE_1 (e := e) (by assumption) hd]; clear hV hr ih hok; rw [Bool.eq_iff_iff]; simp_all <;> omega)
      | (rw [rightE_2 (e := e) (by assumption) hd]; clear hV hr ih hok; rw [Bool.eq_iff_iff]; simp_all <;> omega)
      | exact rightE_0 (e := e) (by assumption) (by assumption) (by assumption) (by assumption)
      | exact rightE_3n (e := e) (by assumption) (by first | exact .inl (by omega) | exact .inr (.inr (.inl (by assumption))) | exact .inr (.inr (.inr (by assumption))) | exact .inr (.inl (by assumption)))
      | exact rightE_4n (e := e) (by assumption) (by first | exact .inl (by omega) | exact .inr (.inr (.inl (by assumption))) | exact .inr (.inr (.inr (by assumption))) | exact .inr (.inl (by assumption)))
      | (rw [rightE_3 (e := e) (by assumption) hd (one_form (by omega) hx)]; first | rw [if_pos (by assumption)] | rw [if_neg (by assumption)]
         first | (rw [rightE_big (e := x) (by omega)]; simp) | (clear hV hr ih hok hg hc0 hV0 hr0; simp_all))
      | (rw [rightE_loop (e := e) (by assumption) hd hk2 hx hy (by assumption) (by assumption) (by assumption)]
         rcases Nat.lt_or_ge j 2 with hj2 | hj2
         · first
             | (exfalso; omega)
             | (rcases (show j = 0 ∨ j = 1 by omega) with h | h
                · subst h; rw [hz] at hx; cases hx; simp_all
                · subst h; rw [hz] at hy; cases hy; simp_all)
         · first
             | (exfalso; omega)
             | (have h0 := hdone 0 (by omega) x hx
                have h1 := hdone 1 (by omega) y hy
                simp at h0 h1
                simp [h0, h1]))
   ·
    intro hc32
    try simp only [dn] at hc32
    refine vc_seq (vc_region ?_)
    refine vc_y rfl rfl (y_eqi rfl rfl) ?_
    refine vc_y rfl rfl (y_as rfl) ?_
    refine vc_end (vq_then (vc_keep [(1, _), (2, _), (10, _), (53, _)] ⟨rfl, rfl, rfl, rfl, trivial⟩ ?_))
    refine vc_ifs rfl ?_ ?_
    ·
     intro hc53
     try simp only [dn] at hc53
     refine vc_seq (vc_seq (vc_region ?_))
     refine vc_y rfl rfl ((by exact y_faz (k := 1) rfl underlying63 rfl rfl sizeOf60 rfl)) ?_
     refine vc_y rfl rfl ((by exact y_ld st 0 rfl isAgg60 rfl rfl)) ?_
     refine vc_e (e_call [_] rfl rfl call130 rfl (rone_any _ _) ?_)
     rintro _ _ ⟨rfl, rfl⟩
     refine vc_y rfl rfl (y_not rfl) ?_
     refine vc_e (e_mvb rfl rfl rfl ?_ ?_)
     ·
      intro hg59
      try simp only [dn] at hg59
      iterate 3 refine vc_e (e_skip rfl rfl ?_)
      refine vc_y rfl rfl (y_pickt rfl rfl) ?_
      refine vc_y rfl rfl (y_mv rfl) ?_
      iterate 3 refine vc_e (e_skip rfl rfl ?_)
      refine vc_y rfl rfl (y_pickt rfl rfl) ?_
      refine vc_y rfl rfl (y_mv rfl) ?_
      iterate 4 refine vc_e (e_skip rfl rfl ?_)
      refine vc_y rfl rfl (y_pickt rfl rfl) ?_
      refine vc_end (vq_then (vc_keep [(1, _), (2, _), (74, _)] ⟨rfl, rfl, rfl, trivial⟩ ?_))
      refine vc_ift rfl ?_
      refine vc_seq (vc_region ?_)
      refine vc_y rfl rfl (y_as rfl) ?_
      refine vc_end (vq_then (vc_keep [(4, _)] ⟨rfl, trivial⟩ (vc_ret (vq_then_ret (vq_block_ret (vq_then_ret ?_))))))
      refine vq_ret1 st (.inl rfl) results116 (.tmp rfl) ?_
      refine ⟨_, rfl, ?_⟩
      refine ⟨?_, st.chg⟩
      show Value.bool _ = Value.bool _
      congr 1
      clear st
      symm
      first
       | (rw [rightE_1 (e := e) (by assumption) hd]; clear hV hr ih hok; rw [Bool.eq_iff_iff]; simp_all <;> omega)
       | (rw [rightE_2 (e := e) (by assumption) hd]; clear hV hr ih hok; rw [Bool.eq_iff_iff]; simp_all <;> omega)
       | exact rightE_0 (e := e) (by assumption) (by assumption) (by assumption) (by assumption)
       | exact rightE_3n (e := e) (by assumption) (by exact .inr (.inl (by assumption)))
       | exact rightE_4n (e := e) (by assumption) (by first | exact .inl (by omega) | exact .inr (.inr (.inl (by assumption))) | exact .inr (.inr (.inr (by assumption))) | exact .inr (.inl (by assumption)))
       | (rw [rightE_3 (e := e) (by assumption) hd (one_form (by omega) hx)]; first | rw [if_pos (by assumption)] | rw [if_neg (by assumption)]
          first | (rw [rightE_big (e := x) (by omega)]; simp) | (clear hV hr ih hok hg hc0 hV0 hr0; simp_all))
       | (rw [rightE_loop (e := e) (by assumption) hd hk2 hx hy (by assumption) (by assumption) (by assumption)]
          rcases Nat.lt_or_ge j 2 with hj2 | hj2
          · first
              | (exfalso; omega)
              | (rcases (show j = 0 ∨ j = 1 by omega) with h | h
                 · subst h; rw [hz] at hx; cases hx; simp_all
                 · subst h; rw [hz] at hy; cases hy; simp_all)
          · first
              | (exfalso; omega)
              | (have h0 := hdone 0 (by omega) x hx
                 have h1 := hdone 1 (by omega) y hy
                 simp at h0 h1
                 simp [h0, h1]))
     ·
      intro hg59
      try simp only [dn] at hg59
      refine vc_y rfl rfl ((by exact y_faz (k := 2) rfl underlying63 rfl rfl sizeOf2 rfl)) ?_
      refine vc_y rfl rfl ((by exact y_ld st 0 rfl isAgg2 rfl rfl)) ?_
      refine vc_y rfl rfl (y_nei rfl rfl) ?_
      refine vc_y rfl rfl (y_pickf rfl rfl) ?_
      refine vc_e (e_mvb rfl rfl rfl ?_ ?_)
      ·
       intro hg64
       try simp only [dn] at hg64
       iterate 3 refine vc_e (e_skip rfl rfl ?_)
       refine vc_y rfl rfl (y_pickt rfl rfl) ?_
       refine vc_y rfl rfl (y_mv rfl) ?_
       iterate 4 refine vc_e (e_skip rfl rfl ?_)
       refine vc_y rfl rfl (y_pickt rfl rfl) ?_
       refine vc_end (vq_then (vc_keep [(1, _), (2, _), (74, _)] ⟨rfl, rfl, rfl, trivial⟩ ?_))
       refine vc_ift rfl ?_
       refine vc_seq (vc_region ?_)
       refine vc_y rfl rfl (y_as rfl) ?_
       refine vc_end (vq_then (vc_keep [(4, _)] ⟨rfl, trivial⟩ (vc_ret (vq_then_ret (vq_block_ret (vq_then_ret ?_))))))
       refine vq_ret1 st (.inl rfl) results116 (.tmp rfl) ?_
       refine ⟨_, rfl, ?_⟩
       refine ⟨?_, st.chg⟩
       show Value.bool _ = Value.bool _
       congr 1
       clear st
       symm
       first
        | (rw [rightE_1 (e := e) (by assumption) hd]; clear hV hr ih hok; rw [Bool.eq_iff_iff]; simp_all <;> omega)
        | (rw [rightE_2 (e := e) (by assumption) hd]; clear hV hr ih hok; rw [Bool.eq_iff_iff]; simp_all <;> omega)
        | exact rightE_0 (e := e) (by assumption) (by assumption) (by assumption) (by assumption)
        | exact rightE_3n (e := e) (by assumption) (by exact .inr (.inr (.inl (by assumption))))
        | exact rightE_4n (e := e) (by assumption) (by first | exact .inl (by omega) | exact .inr (.inr (.inl (by assumption))) | exact .inr (.inr (.inr (by assumption))) | exact .inr (.inl (by assumption)))
        | (rw [rightE_3 (e := e) (by assumption) hd (one_form (by omega) hx)]; first | rw [if_pos (by assumption)] | rw [if_neg (by assumption)]
           first | (rw [rightE_big (e := x) (by omega)]; simp) | (clear hV hr ih hok hg hc0 hV0 hr0; simp_all))
        | (rw [rightE_loop (e := e) (by assumption) hd hk2 hx hy (by assumption) (by assumption) (by assumption)]
           rcases Nat.lt_or_ge j 2 with hj2 | hj2
           · first
               | (exfalso; omega)
               | (rcases (show j = 0 ∨ j = 1 by omega) with h | h
                  · subst h; rw [hz] at hx; cases hx; simp_all
                  · subst h; rw [hz] at hy; cases hy; simp_all)
           · first
               | (exfalso; omega)
               | (have h0 := hdone 0 (by omega) x hx
                  have h1 := hdone 1 (by omega) y hy
                  simp at h0 h1
                  simp [h0, h1]))
      ·
       intro hg64
       try simp only [dn] at hg64
       refine vc_y rfl rfl ((by exact y_faz (k := 3) rfl underlying63 rfl rfl sizeOf9 rfl)) ?_
       refine vc_y rfl rfl ((by exact y_ld st 0 rfl isAgg9 rfl rfl)) ?_
       refine vc_y rfl rfl (y_nes rfl rfl) ?_
       refine vc_y rfl rfl (y_pickf rfl rfl) ?_
       refine vc_e (e_mvb rfl rfl rfl ?_ ?_)
       ·
        intro hg69
        try simp only [dn] at hg69
        iterate 4 refine vc_e (e_skip rfl rfl ?_)
        refine vc_y rfl rfl (y_pickt rfl rfl) ?_
        refine vc_end (vq_then (vc_keep [(1, _), (2, _), (74, _)] ⟨rfl, rfl, rfl, trivial⟩ ?_))
        refine vc_ift rfl ?_
        refine vc_seq (vc_region ?_)
        refine vc_y rfl rfl (y_as rfl) ?_
        refine vc_end (vq_then (vc_keep [(4, _)] ⟨rfl, trivial⟩ (vc_ret (vq_then_ret (vq_block_ret (vq_then_ret ?_))))))
        refine vq_ret1 st (.inl rfl) results116 (.tmp rfl) ?_
        refine ⟨_, rfl, ?_⟩
        refine ⟨?_, st.chg⟩
        show Value.bool _ = Value.bool _
        congr 1
        clear st
        symm
        first
         | (rw [rightE_1 (e := e) (by assumption) hd]; clear hV hr ih hok; rw [Bool.eq_iff_iff]; simp_all <;> omega)
         | (rw [rightE_2 (e := e) (by assumption) hd]; clear hV hr ih hok; rw [Bool.eq_iff_iff]; simp_all <;> omega)
         | exact rightE_0 (e := e) (by assumption) (by assumption) (by assumption) (by assumption)
         | exact rightE_3n (e := e) (by assumption) (by exact .inr (.inr (.inr (by assumption))))
         | exact rightE_4n (e := e) (by assumption) (by first | exact .inl (by omega) | exact .inr (.inr (.inl (by assumption))) | exact .inr (.inr (.inr (by assumption))) | exact .inr (.inl (by assumption)))
         | (rw [rightE_3 (e := e) (by assumption) hd (one_form (by omega) hx)]; first | rw [if_pos (by assumption)] | rw [if_neg (by assumption)]
            first | (rw [rightE_big (e := x) (by omega)]; simp) | (clear hV hr ih hok hg hc0 hV0 hr0; simp_all))
         | (rw [rightE_loop (e := e) (by assumption) hd hk2 hx hy (by assumption) (by assumption) (by assumption)]
            rcases Nat.lt_or_ge j 2 with hj2 | hj2
            · first
                | (exfalso; omega)
                | (rcases (show j = 0 ∨ j = 1 by omega) with h | h
                   · subst h; rw [hz] at hx; cases hx; simp_all
                   · subst h; rw [hz] at hy; cases hy; simp_all)
            · first
                | (exfalso; omega)
                | (have h0 := hdone 0 (by omega) x hx
                   have h1 := hdone 1 (by omega) y hy
                   simp at h0 h1
                   simp [h0, h1]))
       ·
        intro hg69
        try simp only [dn] at hg69
        refine vc_y rfl rfl ((by exact y_faz (k := 4) rfl underlying63 rfl rfl sizeOf61 rfl)) ?_
        refine vc_y rfl rfl ((by exact y_ld st 0 rfl isAgg61 rfl rfl)) ?_
        refine vc_y rfl rfl (y_lensl rfl underlying61) ?_
        refine vc_y rfl rfl (y_nei rfl rfl) ?_
        refine vc_y rfl rfl (y_pickf rfl rfl) ?_
        refine vc_end (vq_then (vc_keep [(1, _), (2, _), (74, _)] ⟨rfl, rfl, rfl, trivial⟩ ?_))
        refine vc_ifs rfl ?_ ?_
        ·
         intro hc74
         try simp only [dn] at hc74
         refine vc_seq (vc_region ?_)
         refine vc_y rfl rfl (y_as rfl) ?_
         refine vc_end (vq_then (vc_keep [(4, _)] ⟨rfl, trivial⟩ (vc_ret (vq_then_ret (vq_block_ret (vq_then_ret ?_))))))
         refine vq_ret1 st (.inl rfl) results116 (.tmp rfl) ?_
         refine ⟨_, rfl, ?_⟩
         refine ⟨?_, st.chg⟩
         show Value.bool _ = Value.bool _
         congr 1
         clear st
         symm
         first
          | (rw [rightE_1 (e := e) (by assumption) hd]; clear hV hr ih hok; rw [Bool.eq_iff_iff]; simp_all <;> omega)
          | (rw [rightE_2 (e := e) (by assumption) hd]; clear hV hr ih hok; rw [Bool.eq_iff_iff]; simp_all <;> omega)
          | exact rightE_0 (e := e) (by assumption) (by assumption) (by assumption) (by assumption)
          | exact rightE_3n (e := e) (by assumption) (by exact .inl (by omega))
          | exact rightE_4n (e := e) (by assumption) (by first | exact .inl (by omega) | exact .inr (.inr (.inl (by assumption))) | exact .inr (.inr (.inr (by assumption))) | exact .inr (.inl (by assumption)))
          | (rw [rightE_3 (e := e) (by assumption) hd (one_form (by omega) hx)]; first | rw [if_pos (by assumption)] | rw [if_neg (by assumption)]
             first | (rw [rightE_big (e := x) (by omega)]; simp) | (clear hV hr ih hok hg hc0 hV0 hr0; simp_all))
          | (rw [rightE_loop (e := e) (by assumption) hd hk2 hx hy (by assumption) (by assumption) (by assumption)]
             rcases Nat.lt_or_ge j 2 with hj2 | hj2
             · first
                 | (exfalso; omega)
                 | (rcases (show j = 0 ∨ j = 1 by omega) with h | h
                    · subst h; rw [hz] at hx; cases hx; simp_all
                    · subst h; rw [hz] at hy; cases hy; simp_all)
             · first
                 | (exfalso; omega)
                 | (have h0 := hdone 0 (by omega) x hx
                    have h1 := hdone 1 (by omega) y hy
                    simp at h0 h1
                    simp [h0, h1]))
        ·
         intro hc74
         try simp only [dn] at hc74
         obtain ⟨x, hx⟩ := get0 (l := e.kids) (n := e.kids.length) rfl (by omega)
         obtain ⟨gb, go, rfl, hgS, hgl, hg⟩ := ExRow.at hr (by omega)
         obtain ⟨o0, c0, hV0, hr0, hc0⟩ := hg 0 x hx
         refine vc_code_skip (vq_then (vc_keep [(1, _), (2, _)] ⟨rfl, rfl, trivial⟩ (vc_seq (vc_seq (vc_region ?_)))))
         refine vc_y rfl rfl ((by exact y_faz (k := 4) rfl underlying63 rfl rfl sizeOf61 rfl)) ?_
         refine vc_y rfl rfl ((by exact y_ld st 0 rfl isAgg61 rfl rfl)) ?_
         refine vc_y rfl rfl ((by exact y_ia (k := 0) rfl rfl underlying61 sizeOf63 rfl (by omega))) ?_
         refine vc_y rfl rfl (y_fa0 rfl underlying63 rfl rfl sizeOf59 rfl) ?_
         refine vc_y rfl rfl ((by exact y_ldc rfl isAgg59 (st.chg.cell (hc0 0 _ rfl) (by simp)))) ?_
         refine vc_y rfl rfl (y_eqi rfl rfl) ?_
         refine vc_end (vq_then (vc_keep [(1, _), (2, _), (80, _)] ⟨rfl, rfl, rfl, trivial⟩ ?_))
         refine vc_ifs rfl ?_ ?_
         ·
          intro hc80
          try simp only [dn] at hc80
          refine vc_seq (vc_region ?_)
          refine vc_y rfl rfl (y_mv rfl) ?_
          refine vc_y rfl rfl (y_add rfl rfl (by omega : _ = ((d + 1 : Nat) : Int)) (by omega) (by omega)) ?_
          refine vc_y rfl rfl (y_leq rfl rfl) ?_
          refine vc_e (e_mvb rfl rfl rfl ?_ ?_)
          ·
           intro hg84
           try simp only [dn] at hg84
           refine vc_y rfl rfl ((by exact y_faz (k := 4) rfl underlying63 rfl rfl sizeOf61 rfl)) ?_
           refine vc_y rfl rfl ((by exact y_ld st 0 rfl isAgg61 rfl rfl)) ?_
           refine vc_y rfl rfl ((by exact y_ia (k := 0) rfl rfl underlying61 sizeOf63 rfl (by omega))) ?_
           refine vc_y rfl rfl ((by exact y_ldca (exL x o0 c0) rfl isAgg63 sizeOf63 rfl (fun i v hi => st.chg.cell (hc0 i v hi) (by simp)))) ?_
           refine vc_y rfl rfl (y_mv rfl) ?_
           refine vc_y rfl rfl (y_add rfl rfl (by omega : _ = ((d + 2 : Nat) : Int)) (by omega) (by omega)) ?_
           refine vc_e (e_call [_, _] rfl rfl call116 rfl (ih (szo x) (by have := mem_size hx; have := szo_kids e; omega) x rfl (d + 2) _ _ (hV0.kept (Same.of_nil st.chg)) (hok.kid hx) (by omega)) ?_)
           rintro _ w ⟨rfl, cw⟩
           replace st := st.call0 cw
           refine vc_y rfl rfl (y_pickt rfl rfl) ?_
           refine vc_y rfl rfl (y_as rfl) ?_
           refine vc_end (vq_then (vc_keep [(4, _)] ⟨rfl, trivial⟩ (vc_ret (vq_then_ret (vq_block_ret (vq_then_ret ?_))))))
           refine vq_ret1 st (.inl rfl) results116 (.tmp rfl) ?_
           refine ⟨_, rfl, ?_⟩
           refine ⟨?_, st.chg⟩
           show Value.bool _ = Value.bool _
           congr 1
           clear st
           symm
           first
            | (rw [rightE_1 (e := e) (by assumption) hd]; clear hV hr ih hok; rw [Bool.eq_iff_iff]; simp_all <;> omega)
            | (rw [rightE_2 (e := e) (by assumption) hd]; clear hV hr ih hok; rw [Bool.eq_iff_iff]; simp_all <;> omega)
            | exact rightE_0 (e := e) (by assumption) (by assumption) (by assumption) (by assumption)
            | exact rightE_3n (e := e) (by assumption) (by first | exact .inl (by omega) | exact .inr (.inr (.inl (by assumption))) | exact .inr (.inr (.inr (by assumption))) | exact .inr (.inl (by assumption)))
            | exact rightE_4n (e := e) (by assumption) (by first | exact .inl (by omega) | exact .inr (.inr (.inl (by assumption))) | exact .inr (.inr (.inr (by assumption))) | exact .inr (.inl (by assumption)))
            | (rw [rightE_3 (e := e) (by assumption) hd (one_form (by omega) hx)]; first | rw [if_pos (by assumption)] | rw [if_neg (by assumption)]
               first | (rw [rightE_big (e := x) (by omega)]; simp) | (clear hV hr ih hok hg hc0 hV0 hr0; simp_all))
            | (rw [rightE_loop (e := e) (by assumption) hd hk2 hx hy (by assumption) (by assumption) (by assumption)]
               rcases Nat.lt_or_ge j 2 with hj2 | hj2
               · first
                   | (exfalso; omega)
                   | (rcases (show j = 0 ∨ j = 1 by omega) with h | h
                      · subst h; rw [hz] at hx; cases hx; simp_all
                      · subst h; rw [hz] at hy; cases hy; simp_all)
               · first
                   | (exfalso; omega)
                   | (have h0 := hdone 0 (by omega) x hx
                      have h1 := hdone 1 (by omega) y hy
                      simp at h0 h1
                      simp [h0, h1]))
          ·
           intro hg84
           try simp only [dn] at hg84
           iterate 7 refine vc_e (e_skip rfl rfl ?_)
           refine vc_y rfl rfl (y_pickf rfl rfl) ?_
           refine vc_y rfl rfl (y_as rfl) ?_
           refine vc_end (vq_then (vc_keep [(4, _)] ⟨rfl, trivial⟩ (vc_ret (vq_then_ret (vq_block_ret (vq_then_ret ?_))))))
           refine vq_ret1 st (.inl rfl) results116 (.tmp rfl) ?_
           refine ⟨_, rfl, ?_⟩
           refine ⟨?_, st.chg⟩
           show Value.bool _ = Value.bool _
           congr 1
           clear st
           symm
           first
            | (rw [rightE_1 (e := e) (by assumption) hd]; clear hV hr ih hok; rw [Bool.eq_iff_iff]; simp_all <;> omega)
            | (rw [rightE_2 (e := e) (by assumption) hd]; clear hV hr ih hok; rw [Bool.eq_iff_iff]; simp_all <;> omega)
            | exact rightE_0 (e := e) (by assumption) (by assumption) (by assumption) (by assumption)
            | exact rightE_3n (e := e) (by assumption) (by first | exact .inl (by omega) | exact .inr (.inr (.inl (by assumption))) | exact .inr (.inr (.inr (by assumption))) | exact .inr (.inl (by assumption)))
            | exact rightE_4n (e := e) (by assumption) (by first | exact .inl (by omega) | exact .inr (.inr (.inl (by assumption))) | exact .inr (.inr (.inr (by assumption))) | exact .inr (.inl (by assumption)))
            | (rw [rightE_3 (e := e) (by assumption) hd (one_form (by omega) hx)]; first | rw [if_pos (by assumption)] | rw [if_neg (by assumption)]
               first | (rw [rightE_big (e := x) (by omega)]; simp) | (clear hV hr ih hok hg hc0 hV0 hr0; simp_all))
            | (rw [rightE_loop (e := e) (by assumption) hd hk2 hx hy (by assumption) (by assumption) (by assumption)]
               rcases Nat.lt_or_ge j 2 with hj2 | hj2
               · first
                   | (exfalso; omega)
                   | (rcases (show j = 0 ∨ j = 1 by omega) with h | h
                      · subst h; rw [hz] at hx; cases hx; simp_all
                      · subst h; rw [hz] at hy; cases hy; simp_all)
               · first
                   | (exfalso; omega)
                   | (have h0 := hdone 0 (by omega) x hx
                      have h1 := hdone 1 (by omega) y hy
                      simp at h0 h1
                      simp [h0, h1]))
         ·
          intro hc80
          try simp only [dn] at hc80
          refine vc_code_skip (vq_then (vc_keep [(1, _), (2, _)] ⟨rfl, rfl, trivial⟩ (vc_seq (vc_region ?_))))
          refine vc_y rfl rfl ((by exact y_faz (k := 4) rfl underlying63 rfl rfl sizeOf61 rfl)) ?_
          refine vc_y rfl rfl ((by exact y_ld st 0 rfl isAgg61 rfl rfl)) ?_
          refine vc_y rfl rfl ((by exact y_ia (k := 0) rfl rfl underlying61 sizeOf63 rfl (by omega))) ?_
          refine vc_y rfl rfl ((by exact y_ldca (exL x o0 c0) rfl isAgg63 sizeOf63 rfl (fun i v hi => st.chg.cell (hc0 i v hi) (by simp)))) ?_
          refine vc_y rfl rfl (y_mv rfl) ?_
          refine vc_y rfl rfl (y_add rfl rfl (by omega : _ = ((d + 1 : Nat) : Int)) (by omega) (by omega)) ?_
          refine vc_e (e_call [_, _] rfl rfl call116 rfl (ih (szo x) (by have := mem_size hx; have := szo_kids e; omega) x rfl (d + 1) _ _ (hV0.kept (Same.of_nil st.chg)) (hok.kid hx) (by omega)) ?_)
          rintro _ w ⟨rfl, cw⟩
          replace st := st.call0 cw
          refine vc_y rfl rfl (y_as rfl) ?_
          refine vc_end (vq_then (vc_keep [(4, _)] ⟨rfl, trivial⟩ (vc_ret (vq_block_ret (vq_then_ret ?_)))))
          refine vq_ret1 st (.inl rfl) results116 (.tmp rfl) ?_
          refine ⟨_, rfl, ?_⟩
          refine ⟨?_, st.chg⟩
          show Value.bool _ = Value.bool _
          congr 1
          clear st
          symm
          first
           | (rw [rightE_1 (e := e) (by assumption) hd]; clear hV hr ih hok; rw [Bool.eq_iff_iff]; simp_all <;> omega)
           | (rw [rightE_2 (e := e) (by assumption) hd]; clear hV hr ih hok; rw [Bool.eq_iff_iff]; simp_all <;> omega)
           | exact rightE_0 (e := e) (by assumption) (by assumption) (by assumption) (by assumption)
           | exact rightE_3n (e := e) (by assumption) (by first | exact .inl (by omega) | exact .inr (.inr (.inl (by assumption))) | exact .inr (.inr (.inr (by assumption))) | exact .inr (.inl (by assumption)))
           | exact rightE_4n (e := e) (by assumption) (by first | exact .inl (by omega) | exact .inr (.inr (.inl (by assumption))) | exact .inr (.inr (.inr (by assumption))) | exact .inr (.inl (by assumption)))
           | (rw [rightE_3 (e := e) (by assumption) hd (one_form (by omega) hx)]; first | rw [if_pos (by assumption)] | rw [if_neg (by assumption)]
              first | (rw [rightE_big (e := x) (by omega)]; simp) | (clear hV hr ih hok hg hc0 hV0 hr0; simp_all))
           | (rw [rightE_loop (e := e) (by assumption) hd hk2 hx hy (by assumption) (by assumption) (by assumption)]
              rcases Nat.lt_or_ge j 2 with hj2 | hj2
              · first
                  | (exfalso; omega)
                  | (rcases (show j = 0 ∨ j = 1 by omega) with h | h
                     · subst h; rw [hz] at hx; cases hx; simp_all
                     · subst h; rw [hz] at hy; cases hy; simp_all)
              · first
                  | (exfalso; omega)
                  | (have h0 := hdone 0 (by omega) x hx
                     have h1 := hdone 1 (by omega) y hy
                     simp at h0 h1
                     simp [h0, h1]))
    ·
     intro hc53
     try simp only [dn] at hc53
     refine vc_seq (vc_region ?_)
     refine vc_y rfl rfl (y_eqi rfl rfl) ?_
     refine vc_y rfl rfl (y_as rfl) ?_
     refine vc_end (vq_then (vc_keep [(1, _), (2, _), (100, _)] ⟨rfl, rfl, rfl, trivial⟩ ?_))
     refine vc_ifs rfl ?_ ?_
     ·
      intro hc100
      try simp only [dn] at hc100
      refine vc_seq (vc_seq (vc_region ?_))
      refine vc_y rfl rfl ((by exact y_faz (k := 1) rfl underlying63 rfl rfl sizeOf60 rfl)) ?_
      refine vc_y rfl rfl ((by exact y_ld st 0 rfl isAgg60 rfl rfl)) ?_
      refine vc_e (e_call [_] rfl rfl call131 rfl (rtwo_any _ _) ?_)
      rintro _ _ ⟨rfl, rfl⟩
      refine vc_y rfl rfl (y_not rfl) ?_
      refine vc_e (e_mvb rfl rfl rfl ?_ ?_)
      ·
       intro hg106
       try simp only [dn] at hg106
       iterate 3 refine vc_e (e_skip rfl rfl ?_)
       refine vc_y rfl rfl (y_pickt rfl rfl) ?_
       refine vc_y rfl rfl (y_mv rfl) ?_
       iterate 3 refine vc_e (e_skip rfl rfl ?_)
       refine vc_y rfl rfl (y_pickt rfl rfl) ?_
       refine vc_y rfl rfl (y_mv rfl) ?_
       iterate 4 refine vc_e (e_skip rfl rfl ?_)
       refine vc_y rfl rfl (y_pickt rfl rfl) ?_
       refine vc_end (vq_then (vc_keep [(1, _), (2, _), (121, _)] ⟨rfl, rfl, rfl, trivial⟩ ?_))
       refine vc_ift rfl ?_
       refine vc_seq (vc_region ?_)
       refine vc_y rfl rfl (y_as rfl) ?_
       refine vc_end (vq_then (vc_keep [(4, _)] ⟨rfl, trivial⟩ (vc_ret (vq_then_ret (vq_block_ret (vq_then_ret ?_))))))
       refine vq_ret1 st (.inl rfl) results116 (.tmp rfl) ?_
       refine ⟨_, rfl, ?_⟩
       refine ⟨?_, st.chg⟩
       show Value.bool _ = Value.bool _
       congr 1
       clear st
       symm
       first
        | (rw [rightE_1 (e := e) (by assumption) hd]; clear hV hr ih hok; rw [Bool.eq_iff_iff]; simp_all <;> omega)
        | (rw [rightE_2 (e := e) (by assumption) hd]; clear hV hr ih hok; rw [Bool.eq_iff_iff]; simp_all <;> omega)
        | exact rightE_0 (e := e) (by assumption) (by assumption) (by assumption) (by assumption)
        | exact rightE_3n (e := e) (by assumption) (by first | exact .inl (by omega) | exact .inr (.inr (.inl (by assumption))) | exact .inr (.inr (.inr (by assumption))) | exact .inr (.inl (by assumption)))
        | exact rightE_4n (e := e) (by assumption) (by exact .inr (.inl (by assumption)))
        | (rw [rightE_3 (e := e) (by assumption) hd (one_form (by omega) hx)]; first | rw [if_pos (by assumption)] | rw [if_neg (by assumption)]
           first | (rw [rightE_big (e := x) (by omega)]; simp) | (clear hV hr ih hok hg hc0 hV0 hr0; simp_all))
        | (rw [rightE_loop (e := e) (by assumption) hd hk2 hx hy (by assumption) (by assumption) (by assumption)]
           rcases Nat.lt_or_ge j 2 with hj2 | hj2
           · first
               | (exfalso; omega)
               | (rcases (show j = 0 ∨ j = 1 by omega) with h | h
                  · subst h; rw [hz] at hx; cases hx; simp_all
                  · subst h; rw [hz] at hy; cases hy; simp_all)
           · first
               | (exfalso; omega)
               | (have h0 := hdone 0 (by omega) x hx
                  have h1 := hdone 1 (by omega) y hy
                  simp at h0 h1
                  simp [h0, h1]))
      ·
       intro hg106
       try simp only [dn] at hg106
       refine vc_y rfl rfl ((by exact y_faz (k := 2) rfl underlying63 rfl rfl sizeOf2 rfl)) ?_
       refine vc_y rfl rfl ((by exact y_ld st 0 rfl isAgg2 rfl rfl)) ?_
       refine vc_y rfl rfl (y_nei rfl rfl) ?_
       refine vc_y rfl rfl (y_pickf rfl rfl) ?_
       refine vc_e (e_mvb rfl rfl rfl ?_ ?_)
       ·
        intro hg111
        try simp only [dn] at hg111
        iterate 3 refine vc_e (e_skip rfl rfl ?_)
        refine vc_y rfl rfl (y_pickt rfl rfl) ?_
        refine vc_y rfl rfl (y_mv rfl) ?_
        iterate 4 refine vc_e (e_skip rfl rfl ?_)
        refine vc_y rfl rfl (y_pickt rfl rfl) ?_
        refine vc_end (vq_then (vc_keep [(1, _), (2, _), (121, _)] ⟨rfl, rfl, rfl, trivial⟩ ?_))
        refine vc_ift rfl ?_
        refine vc_seq (vc_region ?_)
        refine vc_y rfl rfl (y_as rfl) ?_
        refine vc_end (vq_then (vc_keep [(4, _)] ⟨rfl, trivial⟩ (vc_ret (vq_then_ret (vq_block_ret (vq_then_ret ?_))))))
        refine vq_ret1 st (.inl rfl) results116 (.tmp rfl) ?_
        refine ⟨_, rfl, ?_⟩
        refine ⟨?_, st.chg⟩
        show Value.bool _ = Value.bool _
        congr 1
        clear st
        symm
        first
         | (rw [rightE_1 (e := e) (by assumption) hd]; clear hV hr ih hok; rw [Bool.eq_iff_iff]; simp_all <;> omega)
         | (rw [rightE_2 (e := e) (by assumption) hd]; clear hV hr ih hok; rw [Bool.eq_iff_iff]; simp_all <;> omega)
         | exact rightE_0 (e := e) (by assumption) (by assumption) (by assumption) (by assumption)
         | exact rightE_3n (e := e) (by assumption) (by first | exact .inl (by omega) | exact .inr (.inr (.inl (by assumption))) | exact .inr (.inr (.inr (by assumption))) | exact .inr (.inl (by assumption)))
         | exact rightE_4n (e := e) (by assumption) (by exact .inr (.inr (.inl (by assumption))))
         | (rw [rightE_3 (e := e) (by assumption) hd (one_form (by omega) hx)]; first | rw [if_pos (by assumption)] | rw [if_neg (by assumption)]
            first | (rw [rightE_big (e := x) (by omega)]; simp) | (clear hV hr ih hok hg hc0 hV0 hr0; simp_all))
         | (rw [rightE_loop (e := e) (by assumption) hd hk2 hx hy (by assumption) (by assumption) (by assumption)]
            rcases Nat.lt_or_ge j 2 with hj2 | hj2
            · first
                | (exfalso; omega)
                | (rcases (show j = 0 ∨ j = 1 by omega) with h | h
                   · subst h; rw [hz] at hx; cases hx; simp_all
                   · subst h; rw [hz] at hy; cases hy; simp_all)
            · first
                | (exfalso; omega)
                | (have h0 := hdone 0 (by omega) x hx
                   have h1 := hdone 1 (by omega) y hy
                   simp at h0 h1
                   simp [h0, h1]))
       ·
        intro hg111
        try simp only [dn] at hg111
        refine vc_y rfl rfl ((by exact y_faz (k := 3) rfl underlying63 rfl rfl sizeOf9 rfl)) ?_
        refine vc_y rfl rfl ((by exact y_ld st 0 rfl isAgg9 rfl rfl)) ?_
        refine vc_y rfl rfl (y_nes rfl rfl) ?_
        refine vc_y rfl rfl (y_pickf rfl rfl) ?_
        refine vc_e (e_mvb rfl rfl rfl ?_ ?_)
        ·
         intro hg116
         try simp only [dn] at hg116
         iterate 4 refine vc_e (e_skip rfl rfl ?_)
         refine vc_y rfl rfl (y_pickt rfl rfl) ?_
         refine vc_end (vq_then (vc_keep [(1, _), (2, _), (121, _)] ⟨rfl, rfl, rfl, trivial⟩ ?_))
         refine vc_ift rfl ?_
         refine vc_seq (vc_region ?_)
         refine vc_y rfl rfl (y_as rfl) ?_
         refine vc_end (vq_then (vc_keep [(4, _)] ⟨rfl, trivial⟩ (vc_ret (vq_then_ret (vq_block_ret (vq_then_ret ?_))))))
         refine vq_ret1 st (.inl rfl) results116 (.tmp rfl) ?_
         refine ⟨_, rfl, ?_⟩
         refine ⟨?_, st.chg⟩
         show Value.bool _ = Value.bool _
         congr 1
         clear st
         symm
         first
          | (rw [rightE_1 (e := e) (by assumption) hd]; clear hV hr ih hok; rw [Bool.eq_iff_iff]; simp_all <;> omega)
          | (rw [rightE_2 (e := e) (by assumption) hd]; clear hV hr ih hok; rw [Bool.eq_iff_iff]; simp_all <;> omega)
          | exact rightE_0 (e := e) (by assumption) (by assumption) (by assumption) (by assumption)
          | exact rightE_3n (e := e) (by assumption) (by first | exact .inl (by omega) | exact .inr (.inr (.inl (by assumption))) | exact .inr (.inr (.inr (by assumption))) | exact .inr (.inl (by assumption)))
          | exact rightE_4n (e := e) (by assumption) (by exact .inr (.inr (.inr (by assumption))))
          | (rw [rightE_3 (e := e) (by assumption) hd (one_form (by omega) hx)]; first | rw [if_pos (by assumption)] | rw [if_neg (by assumption)]
             first | (rw [rightE_big (e := x) (by omega)]; simp) | (clear hV hr ih hok hg hc0 hV0 hr0; simp_all))
          | (rw [rightE_loop (e := e) (by assumption) hd hk2 hx hy (by assumption) (by assumption) (by assumption)]
             rcases Nat.lt_or_ge j 2 with hj2 | hj2
             · first
                 | (exfalso; omega)
                 | (rcases (show j = 0 ∨ j = 1 by omega) with h | h
                    · subst h; rw [hz] at hx; cases hx; simp_all
                    · subst h; rw [hz] at hy; cases hy; simp_all)
             · first
                 | (exfalso; omega)
                 | (have h0 := hdone 0 (by omega) x hx
                    have h1 := hdone 1 (by omega) y hy
                    simp at h0 h1
                    simp [h0, h1]))
        ·
         intro hg116
         try simp only [dn] at hg116
         refine vc_y rfl rfl ((by exact y_faz (k := 4) rfl underlying63 rfl rfl sizeOf61 rfl)) ?_
         refine vc_y rfl rfl ((by exact y_ld st 0 rfl isAgg61 rfl rfl)) ?_
         refine vc_y rfl rfl (y_lensl rfl underlying61) ?_
         refine vc_y rfl rfl (y_nei rfl rfl) ?_
         refine vc_y rfl rfl (y_pickf rfl rfl) ?_
         refine vc_end (vq_then (vc_keep [(1, _), (2, _), (121, _)] ⟨rfl, rfl, rfl, trivial⟩ ?_))
         refine vc_ifs rfl ?_ ?_
         ·
          intro hc121
          try simp only [dn] at hc121
          refine vc_seq (vc_region ?_)
          refine vc_y rfl rfl (y_as rfl) ?_
          refine vc_end (vq_then (vc_keep [(4, _)] ⟨rfl, trivial⟩ (vc_ret (vq_then_ret (vq_block_ret (vq_then_ret ?_))))))
          refine vq_ret1 st (.inl rfl) results116 (.tmp rfl) ?_
          refine ⟨_, rfl, ?_⟩
          refine ⟨?_, st.chg⟩
          show Value.bool _ = Value.bool _
          congr 1
          clear st
          symm
          first
           | (rw [rightE_1 (e := e) (by assumption) hd]; clear hV hr ih hok; rw [Bool.eq_iff_iff]; simp_all <;> omega)
           | (rw [rightE_2 (e := e) (by assumption) hd]; clear hV hr ih hok; rw [Bool.eq_iff_iff]; simp_all <;> omega)
           | exact rightE_0 (e := e) (by assumption) (by assumption) (by assumption) (by assumption)
           | exact rightE_3n (e := e) (by assumption) (by first | exact .inl (by omega) | exact .inr (.inr (.inl (by assumption))) | exact .inr (.inr (.inr (by assumption))) | exact .inr (.inl (by assumption)))
           | exact rightE_4n (e := e) (by assumption) (by exact .inl (by omega))
           | (rw [rightE_3 (e := e) (by assumption) hd (one_form (by omega) hx)]; first | rw [if_pos (by assumption)] | rw [if_neg (by assumption)]
              first | (rw [rightE_big (e := x) (by omega)]; simp) | (clear hV hr ih hok hg hc0 hV0 hr0; simp_all))
           | (rw [rightE_loop (e := e) (by assumption) hd hk2 hx hy (by assumption) (by assumption) (by assumption)]
              rcases Nat.lt_or_ge j 2 with hj2 | hj2
              · first
                  | (exfalso; omega)
                  | (rcases (show j = 0 ∨ j = 1 by omega) with h | h
                     · subst h; rw [hz] at hx; cases hx; simp_all
                     · subst h; rw [hz] at hy; cases hy; simp_all)
              · first
                  | (exfalso; omega)
                  | (have h0 := hdone 0 (by omega) x hx
                     have h1 := hdone 1 (by omega) y hy
                     simp at h0 h1
                     simp [h0, h1]))
         ·
          intro hc121
          try simp only [dn] at hc121
          have hk2 : e.kids.length = 2 := by omega
          obtain ⟨x, hx⟩ := get0 hk2 (by omega)
          obtain ⟨y, hy⟩ := get1 hk2
          obtain ⟨gb, go, rfl, hgS, hgl, hg⟩ := ExRow.at hr (by omega)
          refine vc_code_skip (vq_then (vc_keep [(1, _), (2, _)] ⟨rfl, rfl, trivial⟩ (vc_seq (vc_seq (vc_region ?_)))))
          refine vc_y rfl rfl (y_as rfl) ?_
          refine vc_end (vq_then (vc_keep [(1, _), (2, _), (5, _)] ⟨rfl, rfl, rfl, trivial⟩ (vc_block ?_)))
          refine vc_loop (w0 := w0) (M := []) (fun (j : Nat) => [(1, .int .i64 (d : Int)), (2, .pointer (some ⟨b2, 0, none⟩)), (5, .int .i64 (j : Int))]) (fun _ => [.blk b2 (.cells (exL e (some ⟨gb, go, none⟩) cap).toArray 63 (0, 0))]) (fun j _ => j ≤ 2 ∧ ∀ i, i < j → kidOk e d i) (fun j => 2 - j) 0 ⟨rfl, rfl, rfl, trivial⟩ st ⟨by omega, fun i hi => by omega⟩ ?_
          rintro j w ⟨hj, hdone⟩ st
          refine vc_seq (vc_seq (vc_region ?_))
          refine vc_y rfl rfl (y_mv rfl) ?_
          refine vc_y rfl rfl (y_lss rfl rfl) ?_
          refine vc_end (vq_then (vc_keep [(1, _), (2, _), (5, _), (123, _)] ⟨rfl, rfl, rfl, rfl, trivial⟩ ?_))
          refine vc_ifs rfl ?_ ?_
          ·
           intro hc123
           try simp only [dn] at hc123
           obtain ⟨z, hz⟩ : ∃ z, e.kids[j]? = some z := ⟨_, List.getElem?_eq_getElem (by omega)⟩
           obtain ⟨o1, c1, hV1, hr1, hc1⟩ := hg j z hz
           have hzk := hok.kid hz
           refine vc_code_skip (vq_then (vc_keep [(1, _), (2, _), (5, _)] ⟨rfl, rfl, rfl, trivial⟩ (vc_seq (vc_block (vc_seq (vc_region ?_))))))
           refine vc_y rfl rfl (y_as rfl) ?_
           refine vc_end (vq_then (vc_keep [(1, _), (2, _), (5, _), (6, _)] ⟨rfl, rfl, rfl, rfl, trivial⟩ ?_))
           refine vc_cut (w0 := w0) (M := []) (fun (_ : Unit) => [(1, .int .i64 (d : Int)), (2, .pointer (some ⟨b2, 0, none⟩)), (5, .int .i64 (j : Int)), (6, .int .i64 (if inn e.op z (decide ((j : Int) = 1)) = true then 1 else 0 : Int))]) (fun _ => [.blk b2 (.cells (exL e (some ⟨gb, go, none⟩) cap).toArray 63 (0, 0))]) (fun _ _ => True) ?_ ?_
           ·
            refine vc_seq ?_
            refine vc_draw Tryd.mixed [(0, true), (1, true), (2, true), (3, true), (4, true), (5, true), (6, true), (7, true), (8, true), (9, false)] (fun w => St _ _ _ w) st (by kernel_rfl) (by repeat (first | exact okQ_body | refine okQ_then ?_ | refine okQ_block ?_)) rfl (by kernel_rfl) ?_
            intro w cd; replace st := st.call0 cd; clear cd
            have hS := st
            refine vp_take rfl rfl rfl hS (fun w st => (by exact y_faz (k := 1) rfl underlying63 rfl rfl sizeOf60 rfl)) ?_
            refine vp_take rfl rfl rfl hS (fun w st => (by exact y_ld st 0 rfl isAgg60 rfl rfl)) ?_
            refine vp_take rfl rfl rfl hS (fun w st => (by exact y_faz (k := 4) rfl underlying63 rfl rfl sizeOf61 rfl)) ?_
            refine vp_take rfl rfl rfl hS (fun w st => (by exact y_ld st 0 rfl isAgg61 rfl rfl)) ?_
            refine vp_take rfl rfl rfl hS (fun w st => y_mv rfl) ?_
            refine vp_take rfl rfl rfl hS (fun w st => (by exact y_ia (k := j) rfl rfl underlying61 sizeOf63 rfl (by omega))) ?_
            refine vp_take rfl rfl rfl hS (fun w st => (by exact y_ldca (exL z o1 c1) rfl isAgg63 sizeOf63 rfl (fun i v hi => st.chg.cell (hc1 i v hi) (by simp)))) ?_
            refine vp_take rfl rfl rfl hS (fun w st => y_mv rfl) ?_
            refine vp_take rfl rfl rfl hS (fun w st => y_eqi rfl rfl) ?_
            refine vp_do rfl (e_call [_, _, _] rfl rfl call119 rfl (rinner_any _ hok.op z _ _ _ _ hzk) ?_)
            rintro _ w ⟨rfl, cw⟩
            replace st := st.call0 cw
            refine vp_next (by exact st) ?_; intro hS
            refine vp_end (vq_then (vc_keep [(1, _), (2, _), (5, _), (6, _), (135, _)] ⟨rfl, rfl, rfl, rfl, rfl, trivial⟩ ?_))
            refine vc_ifs rfl ?_ ?_
            ·
             intro hc135
             try simp only [dn] at hc135
             refine vc_region ?_
             refine vc_y rfl rfl (y_as rfl) ?_
             refine vc_end ?_
             exact vq_meet () ⟨rfl, rfl, rfl, by first | rfl | simp [Sx.put, find, Nat.beq, hc135], trivial⟩ st trivial
            ·
             intro hc135
             try simp only [dn] at hc135
             refine vc_code_skip ?_
             exact vq_meet () ⟨rfl, rfl, rfl, by first | rfl | simp [Sx.put, find, Nat.beq, hc135], trivial⟩ st trivial
           ·
            clear st
            rintro ⟨⟩ w - st
            refine vc_seq (vc_region ?_)
            refine vc_y rfl rfl ((by exact y_faz (k := 4) rfl underlying63 rfl rfl sizeOf61 rfl)) ?_
            refine vc_y rfl rfl ((by exact y_ld st 0 rfl isAgg61 rfl rfl)) ?_
            refine vc_y rfl rfl (y_mv rfl) ?_
            refine vc_y rfl rfl ((by exact y_ia (k := j) rfl rfl underlying61 sizeOf63 rfl (by omega))) ?_
            refine vc_y rfl rfl ((by exact y_ldca (exL z o1 c1) rfl isAgg63 sizeOf63 rfl (fun i v hi => st.chg.cell (hc1 i v hi) (by simp)))) ?_
            iterate 2 refine vc_y rfl rfl (y_mv rfl) ?_
            refine vc_y rfl rfl (y_add rfl rfl (by split <;> omega : _ = ((if inn e.op z (decide ((j : Int) = 1)) = true then d + 1 else d : Nat) : Int)) (by split <;> omega) (by split <;> omega)) ?_
            refine vc_e (e_call [_, _] rfl rfl call116 rfl (ih (szo z) (by have := mem_size hz; have := szo_kids e; omega) z rfl _ _ _ (hV1.kept (Same.of_nil st.chg)) (hok.kid hz) (by split <;> omega)) ?_)
            rintro _ w ⟨rfl, cw⟩
            replace st := st.call0 cw
            refine vc_y rfl rfl (y_not rfl) ?_
            refine vc_end (vq_then (vc_keep [(1, _), (2, _), (5, _), (145, _)] ⟨rfl, rfl, rfl, rfl, trivial⟩ ?_))
            refine vc_ifs rfl ?_ ?_
            ·
             intro hc145
             try simp only [dn] at hc145
             refine vc_seq (vc_region ?_)
             refine vc_y rfl rfl (y_as rfl) ?_
             refine vc_end (vq_then (vc_keep [(4, _)] ⟨rfl, trivial⟩ (vc_ret (vq_block_ret (vq_then_ret (vq_then_ret (vq_block_ret (vq_then_ret (vq_block_ret (vq_then_ret ?_))))))))))
             refine vq_ret1 st (.inl rfl) results116 (.tmp rfl) ?_
             refine ⟨_, rfl, ?_⟩
             refine ⟨?_, st.chg⟩
             show Value.bool _ = Value.bool _
             congr 1
             clear st
             symm
             first
              | (rw [rightE_1 (e := e) (by assumption) hd]; clear hV hr ih hok; rw [Bool.eq_iff_iff]; simp_all <;> omega)
              | (rw [rightE_2 (e := e) (by assumption) hd]; clear hV hr ih hok; rw [Bool.eq_iff_iff]; simp_all <;> omega)
              | exact rightE_0 (e := e) (by assumption) (by assumption) (by assumption) (by assumption)
              | exact rightE_3n (e := e) (by assumption) (by first | exact .inl (by omega) | exact .inr (.inr (.inl (by assumption))) | exact .inr (.inr (.inr (by assumption))) | exact .inr (.inl (by assumption)))
              | exact rightE_4n (e := e) (by assumption) (by first | exact .inl (by omega) | exact .inr (.inr (.inl (by assumption))) | exact .inr (.inr (.inr (by assumption))) | exact .inr (.inl (by assumption)))
              | (rw [rightE_3 (e := e) (by assumption) hd (one_form (by omega) hx)]; first | rw [if_pos (by assumption)] | rw [if_neg (by assumption)]
                 first | (rw [rightE_big (e := x) (by omega)]; simp) | (clear hV hr ih hok hg hc0 hV0 hr0; simp_all))
              | (rw [rightE_loop (e := e) (by assumption) hd hk2 hx hy (by assumption) (by assumption) (by assumption)]
                 rcases Nat.lt_or_ge j 2 with hj2 | hj2
                 · first
                     | (exfalso; omega)
                     | (rcases (show j = 0 ∨ j = 1 by omega) with h | h
                        · subst h; rw [hz] at hx; cases hx; simp_all
                        · subst h; rw [hz] at hy; cases hy; simp_all)
                 · first
                     | (exfalso; omega)
                     | (have h0 := hdone 0 (by omega) x hx
                        have h1 := hdone 1 (by omega) y hy
                        simp at h0 h1
                        simp [h0, h1]))
            ·
             intro hc145
             try simp only [dn] at hc145
             refine vc_code_skip (vq_block (vq_then (vc_keep [(1, _), (2, _), (5, _)] ⟨rfl, rfl, rfl, trivial⟩ (vc_region ?_))))
             refine vc_y rfl rfl (y_mv rfl) ?_
             refine vc_y rfl rfl (y_add rfl rfl (by omega : _ = ((j + 1 : Nat) : Int)) (by omega) (by omega)) ?_
             refine vc_y rfl rfl (y_as rfl) ?_
             refine vc_end ?_
             refine vq_again (j + 1)  ⟨rfl, rfl, rfl, trivial⟩ st ?_ ?_
             ·
              refine ⟨by omega, fun i hi => ?_⟩
              rcases Nat.lt_or_ge i j with h | h
              ·
               exact hdone i h
              ·
               have h2 : i = j := by omega
               subst h2; intro z2 hz2; rw [hz] at hz2; cases hz2; assumption
             ·
              (try dsimp only); omega
          ·
           intro hc123
           try simp only [dn] at hc123
           refine vc_exit (vq_then_exit (vq_then_exit (vq_block_exit (vq_then (vc_keep [] trivial (vc_seq (vc_region ?_)))))))
           refine vc_y rfl rfl (y_as rfl) ?_
           refine vc_end (vq_then (vc_keep [(4, _)] ⟨rfl, trivial⟩ (vc_ret (vq_block_ret (vq_then_ret ?_)))))
           refine vq_ret1 st (.inl rfl) results116 (.tmp rfl) ?_
           refine ⟨_, rfl, ?_⟩
           refine ⟨?_, st.chg⟩
           show Value.bool _ = Value.bool _
           congr 1
           clear st
           symm
           first
            | (rw [rightE_1 (e := e) (by assumption) hd]; clear hV hr ih hok; rw [Bool.eq_iff_iff]; simp_all <;> omega)
            | (rw [rightE_2 (e := e) (by assumption) hd]; clear hV hr ih hok; rw [Bool.eq_iff_iff]; simp_all <;> omega)
            | exact rightE_0 (e := e) (by assumption) (by assumption) (by assumption) (by assumption)
            | exact rightE_3n (e := e) (by assumption) (by first | exact .inl (by omega) | exact .inr (.inr (.inl (by assumption))) | exact .inr (.inr (.inr (by assumption))) | exact .inr (.inl (by assumption)))
            | exact rightE_4n (e := e) (by assumption) (by first | exact .inl (by omega) | exact .inr (.inr (.inl (by assumption))) | exact .inr (.inr (.inr (by assumption))) | exact .inr (.inl (by assumption)))
            | (rw [rightE_3 (e := e) (by assumption) hd (one_form (by omega) hx)]; first | rw [if_pos (by assumption)] | rw [if_neg (by assumption)]
               first | (rw [rightE_big (e := x) (by omega)]; simp) | (clear hV hr ih hok hg hc0 hV0 hr0; simp_all))
            | (rw [rightE_loop (e := e) (by assumption) hd hk2 hx hy (by assumption) (by assumption) (by assumption)]
               rcases Nat.lt_or_ge j 2 with hj2 | hj2
               · first
                   | (exfalso; omega)
                   | (rcases (show j = 0 ∨ j = 1 by omega) with h | h
                      · subst h; rw [hz] at hx; cases hx; simp_all
                      · subst h; rw [hz] at hy; cases hy; simp_all)
               · first
                   | (exfalso; omega)
                   | (have h0 := hdone 0 (by omega) x hx
                      have h1 := hdone 1 (by omega) y hy
                      simp at h0 h1
                      simp [h0, h1]))
     ·
      intro hc100
      try simp only [dn] at hc100
      refine vc_code_skip (vq_block (vq_then (vc_keep [] trivial (vc_seq (vc_region ?_)))))
      refine vc_y rfl rfl (y_as rfl) ?_
      refine vc_end (vq_then (vc_keep [(4, _)] ⟨rfl, trivial⟩ (vc_ret ?_)))
      refine vq_ret1 st (.inl rfl) results116 (.tmp rfl) ?_
      refine ⟨_, rfl, ?_⟩
      refine ⟨?_, st.chg⟩
      show Value.bool _ = Value.bool _
      congr 1
      clear st
      symm
      first
       | (rw [rightE_1 (e := e) (by assumption) hd]; clear hV hr ih hok; rw [Bool.eq_iff_iff]; simp_all <;> omega)
       | (rw [rightE_2 (e := e) (by assumption) hd]; clear hV hr ih hok; rw [Bool.eq_iff_iff]; simp_all <;> omega)
       | exact rightE_0 (e := e) (by assumption) (by assumption) (by assumption) (by assumption)
       | exact rightE_3n (e := e) (by assumption) (by first | exact .inl (by omega) | exact .inr (.inr (.inl (by assumption))) | exact .inr (.inr (.inr (by assumption))) | exact .inr (.inl (by assumption)))
       | exact rightE_4n (e := e) (by assumption) (by first | exact .inl (by omega) | exact .inr (.inr (.inl (by assumption))) | exact .inr (.inr (.inr (by assumption))) | exact .inr (.inl (by assumption)))
       | (rw [rightE_3 (e := e) (by assumption) hd (one_form (by omega) hx)]; first | rw [if_pos (by assumption)] | rw [if_neg (by assumption)]
          first | (rw [rightE_big (e := x) (by omega)]; simp) | (clear hV hr ih hok hg hc0 hV0 hr0; simp_all))
       | (rw [rightE_loop (e := e) (by assumption) hd hk2 hx hy (by assumption) (by assumption) (by assumption)]
          rcases Nat.lt_or_ge j 2 with hj2 | hj2
          · first
              | (exfalso; omega)
              | (rcases (show j = 0 ∨ j = 1 by omega) with h | h
                 · subst h; rw [hz] at hx; cases hx; simp_all
                 · subst h; rw [hz] at hy; cases hy; simp_all)
          · first
              | (exfalso; omega)
              | (have h0 := hdone 0 (by omega) x hx
                 have h1 := hdone 1 (by omega) y hy
                 simp at h0 h1
                 simp [h0, h1]))

end
end Go.Proofs.YtnmhlpnapgojjaaDoor

namespace Go.Proofs.YtnmhlpnapgojjaaDoor
open Go.RowKit Sx LexS _root_.Go.Proofs.Tryd
set_option linter.unusedVariables false
set_option linter.unusedSimpArgs false
section
variable {n0 : Nat}
theorem rightE_inv3 {e : Ex} {d : Nat} (h : rightE e d = true) (hk : e.k = 3) : ∃ x, e.kids = [x] ∧ ∃ d', rightE x d' = true := by
 have hd := rightE_le h
 by_cases h1 : e.kids.length = 1
 ·
  obtain ⟨x, hx⟩ := get0 h1 (by omega)
  refine ⟨x, one_form h1 hx, ?_⟩
  rw [rightE_3 hk hd (one_form h1 hx)] at h
  simp only [Bool.and_eq_true] at h
  exact ⟨_, h.2⟩
 ·
  rw [rightE_3n hk (.inl h1)] at h; cases h
theorem rightE_inv4 {e : Ex} {d : Nat} (h : rightE e d = true) (hk : e.k = 4) : ∃ x y, e.kids = [x, y] ∧ (∃ d', rightE x d' = true) ∧ ∃ d', rightE y d' = true := by
 have hd := rightE_le h
 by_cases h1 : e.kids.length = 2
 ·
  obtain ⟨x, hx⟩ := get0 h1 (by omega)
  obtain ⟨y, hy⟩ := get1 h1
  refine ⟨x, y, two_form h1 hx hy, ?_⟩
  rw [rightE_4 hk hd (two_form h1 hx hy)] at h
  simp only [Bool.and_eq_true] at h
  exact ⟨⟨_, h.2.1⟩, ⟨_, h.2.2⟩⟩
 ·
  rw [rightE_4n hk (.inl h1)] at h; cases h
theorem rightE_kind {e : Ex} {d : Nat} (h : rightE e d = true) : e.k = 1 ∨ e.k = 2 ∨ e.k = 3 ∨ e.k = 4 := by
 by_cases h1 : e.k = 1
 ·
  exact .inl h1
 by_cases h2 : e.k = 2
 ·
  exact .inr (.inl h2)
 by_cases h3 : e.k = 3
 ·
  exact .inr (.inr (.inl h3))
 by_cases h4 : e.k = 4
 ·
  exact .inr (.inr (.inr h4))
 rw [rightE_0 h1 h2 h3 h4] at h; cases h
theorem isName_le {l : List UInt8} (h : isName l = true) : l.length ≤ 32 := by
 rcases Nat.lt_or_ge 32 l.length with h1 | h1
 ·
  rw [isName_long h1] at h; cases h
 ·
  exact h1
theorem rightE_nm {e : Ex} {d : Nat} (h : rightE e d = true) (hk : e.k = 2) : e.nm.length ≤ 32 := by
 rw [rightE_2 hk (rightE_le h)] at h
 simp only [Bool.and_eq_true] at h
 exact isName_le h.1
theorem txtE_1 {e : Ex} (h : e.k = 1) : txtE e = shw e.wd := by
 cases e; simp only [Ex.k] at h; subst h; rw [txtE.eq_def]; simp [Ex.wd]
theorem txtE_2 {e : Ex} (h : e.k = 2) : txtE e = e.nm := by
 cases e; simp only [Ex.k] at h; subst h; rw [txtE.eq_def]; simp [Ex.nm]
theorem txtE_3 {e x : Ex} (h : e.k = 3) (hx : e.kids = [x]) : txtE e = shwO e.op ++ par (decide (x.k = 4)) (txtE x) := by
 cases e with
 | mk k op wd nm kids a => change k = 3 at h; change kids = [x] at hx; subst h hx; rw [txtE]; simp [Ex.op]
theorem txtE_4 {e x y : Ex} (h : e.k = 4) (hx : e.kids = [x, y]) : txtE e = par (inn e.op x false) (txtE x) ++ ([32] ++ shwO e.op ++ [32]) ++ par (inn e.op y true) (txtE y) := by
 cases e with
 | mk k op wd nm kids a => change k = 4 at h; change kids = [x, y] at hx; subst h hx; rw [txtE]; simp [Ex.op]
theorem shw_le (x : Int) (h : i64 x) : (shw x).length ≤ 20 := by
 unfold i64 at h
 have h1 := dec_len 18 x.natAbs (by simp only [Nat.reducePow, Nat.reduceAdd]; omega)
 unfold shw
 split
 ·
  simp only [List.length_cons]; omega
 ·
  omega

set_option maxHeartbeats 1000000 in
theorem rkid_any (x : Ex) (hrec : ∀ (bw : Nat) (v : Value) (F : List UInt8) (w : World) (l : List Value), ExV w (· < n0) x l → Wr 5 n0 53 bw v F w → n0 ≤ w.heap.size → Ret Tryd.prog 92 [.pointer (some ⟨bw, 0, none⟩), .agg l.toArray] w fun r w' => r = .tuple #[] ∧ WrP 5 n0 53 bw v (F ++ txtE x) w w')
    (b : Bool) (o : Option Addr) (c : Nat) (bw : Nat) (v : Value) (F : List UInt8) (w : World) (hV : ExV w (· < n0) x (exL x o c)) (hW : Wr 5 n0 53 bw v F w) (hn0 : n0 ≤ w.heap.size) :
  Ret Tryd.prog 118 [.pointer (some ⟨bw, 0, none⟩), .agg (exL x o c).toArray, .bool b] w fun r w' => r = .tuple #[] ∧ WrP 5 n0 53 bw v (F ++ par b (txtE x)) w w' := by
 refine ret_of [_, _, _] func118 rfl ntmps118 rfl ?_
 have st := St.init w []
 clear st
 obtain ⟨w0, rfl⟩ : ∃ w0, w0 = w := ⟨_, rfl⟩
 have st := St.wrInit hW
 have hsame : ∀ {w1 : World}, Chg (bw :: v.ownBlock.toList) w0 w1 → Same (· < n0) w0 w1 := fun c => hW.same c
 refine vc_seq (vc_region ?_)
 refine vc_e (e_bx (l := [_, _, _, _, _, _]) st rfl rfl rfl rfl ?_)
 intro b4 w hb4 st
 refine vc_end (vq_then (vc_keep [(0, _), (2, _), (4, _)] ⟨rfl, rfl, rfl, trivial⟩ (vc_seq (vc_seq (vc_region ?_)))))
 refine vc_y rfl rfl (y_mv rfl) ?_
 refine vc_end (vq_then (vc_keep [(0, _), (2, _), (4, _), (6, _)] ⟨rfl, rfl, rfl, rfl, trivial⟩ ?_))
 refine vc_ifs rfl ?_ ?_
 ·
  intro hc6
  try simp only [dn] at hc6
  refine vc_region ?_
  refine vc_y rfl rfl (y_mv rfl) ?_
  refine vc_e (e_call [_, _] rfl rfl call24 rfl (rput_any bw _ _ _ _ (by exact st.wrGet (i := 1) rfl) (Nat.le_trans hn0 st.chg.size) (by simp)) ?_)
  rintro _ w ⟨rfl, hp⟩
  obtain ⟨v, st⟩ := st.wr (i := 1) rfl hp
  dsimp only [setNth] at st
  refine vc_end (vq_then (vc_keep [(0, _), (2, _), (4, _)] ⟨rfl, rfl, rfl, trivial⟩ (vc_seq (vc_region ?_))))
  refine vc_y rfl rfl (y_mv rfl) ?_
  refine vc_y rfl rfl ((by exact y_lda (vs := [_, _, _, _, _, _]) st 0 rfl isAgg63 sizeOf63 rfl rfl)) ?_
  refine vc_e (e_call [_, _] rfl rfl call92 rfl (hrec bw _ _ _ _ (hV.kept (hsame st.chg)) (by exact st.wrGet (i := 1) rfl) (Nat.le_trans hn0 st.chg.size)) ?_)
  rintro _ w ⟨rfl, hp⟩
  obtain ⟨v, st⟩ := st.wr (i := 1) rfl hp
  dsimp only [setNth] at st
  refine vc_end (vq_then (vc_keep [(0, _), (2, _)] ⟨rfl, rfl, trivial⟩ (vc_seq (vc_region ?_))))
  refine vc_y rfl rfl (y_mv rfl) ?_
  refine vc_end (vq_then (vc_keep [(0, _), (12, _)] ⟨rfl, rfl, trivial⟩ ?_))
  refine vc_ifs rfl ?_ ?_
  ·
   intro hc12
   try simp only [dn] at hc12
   refine vc_region ?_
   refine vc_y rfl rfl (y_mv rfl) ?_
   refine vc_e (e_call [_, _] rfl rfl call24 rfl (rput_any bw _ _ _ _ (by exact st.wrGet (i := 1) rfl) (Nat.le_trans hn0 st.chg.size) (by simp)) ?_)
   rintro _ w ⟨rfl, hp⟩
   obtain ⟨v, st⟩ := st.wr (i := 1) rfl hp
   dsimp only [setNth] at st
   refine vc_end ?_
   refine vq_ret0 (.inr rfl) results118 ?_
   refine ⟨_, rfl, ?_⟩
   refine ⟨rfl, ?_⟩
   first
    | (have h1 : b = true := by assumption
       have h2 : b = false := by assumption
       rw [h1] at h2; cases h2)
    | exact (st.wrDone (i := 1) rfl).eq (by simp [par, *])
  ·
   intro hc12
   try simp only [dn] at hc12
   refine vc_code_skip ?_
   refine vq_ret0 (.inr rfl) results118 ?_
   refine ⟨_, rfl, ?_⟩
   refine ⟨rfl, ?_⟩
   first
    | (have h1 : b = true := by assumption
       have h2 : b = false := by assumption
       rw [h1] at h2; cases h2)
    | exact (st.wrDone (i := 1) rfl).eq (by simp [par, *])
 ·
  intro hc6
  try simp only [dn] at hc6
  refine vc_code_skip (vq_then (vc_keep [(0, _), (2, _), (4, _)] ⟨rfl, rfl, rfl, trivial⟩ (vc_seq (vc_region ?_))))
  refine vc_y rfl rfl (y_mv rfl) ?_
  refine vc_y rfl rfl ((by exact y_lda (vs := [_, _, _, _, _, _]) st 0 rfl isAgg63 sizeOf63 rfl rfl)) ?_
  refine vc_e (e_call [_, _] rfl rfl call92 rfl (hrec bw _ _ _ _ (hV.kept (hsame st.chg)) (by exact st.wrGet (i := 1) rfl) (Nat.le_trans hn0 st.chg.size)) ?_)
  rintro _ w ⟨rfl, hp⟩
  obtain ⟨v, st⟩ := st.wr (i := 1) rfl hp
  dsimp only [setNth] at st
  refine vc_end (vq_then (vc_keep [(0, _), (2, _)] ⟨rfl, rfl, trivial⟩ (vc_seq (vc_region ?_))))
  refine vc_y rfl rfl (y_mv rfl) ?_
  refine vc_end (vq_then (vc_keep [(0, _), (12, _)] ⟨rfl, rfl, trivial⟩ ?_))
  refine vc_ifs rfl ?_ ?_
  ·
   intro hc12
   try simp only [dn] at hc12
   refine vc_region ?_
   refine vc_y rfl rfl (y_mv rfl) ?_
   refine vc_e (e_call [_, _] rfl rfl call24 rfl (rput_any bw _ _ _ _ (by exact st.wrGet (i := 1) rfl) (Nat.le_trans hn0 st.chg.size) (by simp)) ?_)
   rintro _ w ⟨rfl, hp⟩
   obtain ⟨v, st⟩ := st.wr (i := 1) rfl hp
   dsimp only [setNth] at st
   refine vc_end ?_
   refine vq_ret0 (.inr rfl) results118 ?_
   refine ⟨_, rfl, ?_⟩
   refine ⟨rfl, ?_⟩
   first
    | (have h1 : b = true := by assumption
       have h2 : b = false := by assumption
       rw [h1] at h2; cases h2)
    | exact (st.wrDone (i := 1) rfl).eq (by simp [par, *])
  ·
   intro hc12
   try simp only [dn] at hc12
   refine vc_code_skip ?_
   refine vq_ret0 (.inr rfl) results118 ?_
   refine ⟨_, rfl, ?_⟩
   refine ⟨rfl, ?_⟩
   first
    | (have h1 : b = true := by assumption
       have h2 : b = false := by assumption
       rw [h1] at h2; cases h2)
    | exact (st.wrDone (i := 1) rfl).eq (by simp [par, *])

set_option maxHeartbeats 2000000 in
theorem rtext_any : ∀ (n : Nat) (e : Ex), szo e = n → ∀ (d : Nat), rightE e d = true → OkE e → ∀ (bw : Nat) (v : Value) (F : List UInt8) (w : World) (l : List Value), ExV w (· < n0) e l → Wr 5 n0 53 bw v F w → n0 ≤ w.heap.size →
    Ret Tryd.prog 92 [.pointer (some ⟨bw, 0, none⟩), .agg l.toArray] w fun r w' => r = .tuple #[] ∧ WrP 5 n0 53 bw v (F ++ txtE e) w w' := by
 intro n
 refine Nat.strongRecOn n fun n ih => ?_
 intro e hn d hR hok bw v F w l hV hW hn0
 subst hn
 obtain ⟨oa, cap, rfl, hr⟩ := ExV.inv hV
 refine ret_of [_, _] func92 rfl ntmps92 rfl ?_
 have st := St.init w []
 clear st
 obtain ⟨w0, rfl⟩ : ∃ w0, w0 = w := ⟨_, rfl⟩
 have st := St.wrInit hW
 have hsame : ∀ {w1 : World}, Chg (bw :: v.ownBlock.toList) w0 w1 → Same (· < n0) w0 w1 := fun c => hW.same c
 refine vc_seq (vc_region ?_)
 refine vc_e (e_bx (l := [_, _, _, _, _, _]) st rfl rfl rfl rfl ?_)
 intro b3 w hb3 st
 refine vc_end (vq_then (vc_keep [(0, _), (3, _)] ⟨rfl, rfl, trivial⟩ (vc_seq (vc_seq (vc_region ?_)))))
 refine vc_y rfl rfl (y_mv rfl) ?_
 refine vc_y rfl rfl (y_nck rfl) ?_
 refine vc_y rfl rfl ((by exact y_faz (k := 1) rfl underlying53 rfl rfl sizeOf4 rfl)) ?_
 obtain ⟨lq, many, hb, ho, hws, hx1, hx2⟩ := st.wrGet (i := 1) rfl
 refine vc_y rfl rfl ((by exact y_ldc rfl isAgg4 (ptr_cell hb))) ?_
 refine vc_end (vq_then (vc_keep [(0, _), (3, _), (7, _)] ⟨rfl, rfl, rfl, trivial⟩ ?_))
 refine vc_ifs rfl ?_ ?_
 ·
  intro hc7
  try simp only [dn] at hc7
  refine vc_ret (vq_then_ret ?_)
  refine vq_ret0 (.inl rfl) results92 ?_
  refine ⟨_, rfl, ?_⟩
  refine ⟨rfl, ?_⟩
  first
   | (have hm : many = true := by assumption
      subst hm
      exact (st.wrDone (i := 1) rfl).over hb)
   | exact (st.wrDone (i := 1) rfl).eq (by first | rw [txtE_1 (e := e) (by assumption)] | rw [txtE_2 (e := e) (by assumption)] | (rw [txtE_3 (e := e) (by assumption) hkx]; simp only [List.append_assoc]) | (rw [txtE_4 (e := e) (by assumption) hkx]; simp only [List.append_assoc]))
 ·
  intro hc7
  try simp only [dn] at hc7
  refine vc_code_skip (vq_then (vc_keep [(0, _), (3, _)] ⟨rfl, rfl, trivial⟩ (vc_seq (vc_region ?_))))
  refine vc_y rfl rfl (y_fa0 rfl underlying63 rfl rfl sizeOf59 rfl) ?_
  refine vc_y rfl rfl ((by exact y_ld st 0 rfl isAgg59 rfl rfl)) ?_
  refine vc_end (vq_then (vc_keep [(0, _), (3, _), (9, _)] ⟨rfl, rfl, rfl, trivial⟩ (vc_block (vc_seq (vc_region ?_)))))
  refine vc_y rfl rfl (y_eqi rfl rfl) ?_
  refine vc_y rfl rfl (y_as rfl) ?_
  refine vc_end (vq_then (vc_keep [(0, _), (3, _), (9, _), (43, _)] ⟨rfl, rfl, rfl, rfl, trivial⟩ ?_))
  refine vc_ifs rfl ?_ ?_
  ·
   intro hc43
   try simp only [dn] at hc43
   refine vc_region ?_
   refine vc_y rfl rfl (y_mv rfl) ?_
   refine vc_y rfl rfl ((by exact y_faz (k := 2) rfl underlying63 rfl rfl sizeOf2 rfl)) ?_
   refine vc_y rfl rfl ((by exact y_ld st 0 rfl isAgg2 rfl rfl)) ?_
   refine vc_e (e_call [_] rfl rfl call60 rfl (rprint_any _ _ hok.wd) ?_)
   rintro _ w ⟨rfl, cw⟩
   replace st := st.call0 cw
   refine vc_e (e_call [_, _] rfl rfl call24 rfl (rput_any bw _ _ _ _ (by exact st.wrGet (i := 1) rfl) (Nat.le_trans hn0 st.chg.size) (by have := shw_le e.wd hok.wd; omega)) ?_)
   rintro _ w ⟨rfl, hp⟩
   obtain ⟨v, st⟩ := st.wr (i := 1) rfl hp
   dsimp only [setNth] at st
   refine vc_end (vq_block ?_)
   refine vq_ret0 (.inr rfl) results92 ?_
   refine ⟨_, rfl, ?_⟩
   refine ⟨rfl, ?_⟩
   first
    | (have hm : many = true := by assumption
       subst hm
       exact (st.wrDone (i := 1) rfl).over hb)
    | exact (st.wrDone (i := 1) rfl).eq (by first | rw [txtE_1 (e := e) (by assumption)] | rw [txtE_2 (e := e) (by assumption)] | (rw [txtE_3 (e := e) (by assumption) hkx]; simp only [List.append_assoc]) | (rw [txtE_4 (e := e) (by assumption) hkx]; simp only [List.append_assoc]))
  ·
   intro hc43
   try simp only [dn] at hc43
   refine vc_seq (vc_region ?_)
   refine vc_y rfl rfl (y_eqi rfl rfl) ?_
   refine vc_y rfl rfl (y_as rfl) ?_
   refine vc_end (vq_then (vc_keep [(0, _), (3, _), (9, _), (50, _)] ⟨rfl, rfl, rfl, rfl, trivial⟩ ?_))
   refine vc_ifs rfl ?_ ?_
   ·
    intro hc50
    try simp only [dn] at hc50
    refine vc_region ?_
    refine vc_y rfl rfl (y_mv rfl) ?_
    refine vc_y rfl rfl ((by exact y_faz (k := 3) rfl underlying63 rfl rfl sizeOf9 rfl)) ?_
    refine vc_y rfl rfl ((by exact y_ld st 0 rfl isAgg9 rfl rfl)) ?_
    refine vc_e (e_call [_, _] rfl rfl call24 rfl (rput_any bw _ _ _ _ (by exact st.wrGet (i := 1) rfl) (Nat.le_trans hn0 st.chg.size) (by have := rightE_nm hR (by assumption); omega)) ?_)
    rintro _ w ⟨rfl, hp⟩
    obtain ⟨v, st⟩ := st.wr (i := 1) rfl hp
    dsimp only [setNth] at st
    refine vc_end (vq_block ?_)
    refine vq_ret0 (.inr rfl) results92 ?_
    refine ⟨_, rfl, ?_⟩
    refine ⟨rfl, ?_⟩
    first
     | (have hm : many = true := by assumption
        subst hm
        exact (st.wrDone (i := 1) rfl).over hb)
     | exact (st.wrDone (i := 1) rfl).eq (by first | rw [txtE_1 (e := e) (by assumption)] | rw [txtE_2 (e := e) (by assumption)] | (rw [txtE_3 (e := e) (by assumption) hkx]; simp only [List.append_assoc]) | (rw [txtE_4 (e := e) (by assumption) hkx]; simp only [List.append_assoc]))
   ·
    intro hc50
    try simp only [dn] at hc50
    refine vc_seq (vc_region ?_)
    refine vc_y rfl rfl (y_eqi rfl rfl) ?_
    refine vc_y rfl rfl (y_as rfl) ?_
    refine vc_end (vq_then (vc_keep [(0, _), (3, _), (56, _)] ⟨rfl, rfl, rfl, trivial⟩ ?_))
    refine vc_ifs rfl ?_ ?_
    ·
     intro hc56
     try simp only [dn] at hc56
     obtain ⟨x, hkx, d1, hR1⟩ := rightE_inv3 hR hc56
     have hx : e.kids[0]? = some x := by rw [hkx]; rfl
     have hk1 : e.kids.length = 1 := by rw [hkx]; rfl
     obtain ⟨gb, go, rfl, hgS, hgl, hg⟩ := ExRow.at hr (by omega)
     obtain ⟨o0, c0, hV0, hr0, hc0⟩ := hg 0 x hx
     refine vc_seq (vc_region ?_)
     refine vc_y rfl rfl (y_mv rfl) ?_
     refine vc_y rfl rfl ((by exact y_faz (k := 1) rfl underlying63 rfl rfl sizeOf60 rfl)) ?_
     refine vc_y rfl rfl ((by exact y_ld st 0 rfl isAgg60 rfl rfl)) ?_
     refine vc_e (e_call [_] rfl rfl call117 rfl (rshow_any _ hok.op.1 _) ?_)
     rintro _ w ⟨rfl, cw⟩
     replace st := st.call0 cw
     refine vc_e (e_call [_, _] rfl rfl call24 rfl (rput_any bw _ _ _ _ (by exact st.wrGet (i := 1) rfl) (Nat.le_trans hn0 st.chg.size) (by have := shwO_len e.op; omega)) ?_)
     rintro _ w ⟨rfl, hp⟩
     obtain ⟨v, st⟩ := st.wr (i := 1) rfl hp
     dsimp only [setNth] at st
     refine vc_end (vq_then (vc_keep [(0, _), (3, _)] ⟨rfl, rfl, trivial⟩ ?_))
     refine vc_draw Tryd.mixed [(0, true), (1, true), (2, true), (3, true), (4, true), (5, true), (6, true), (7, true), (8, true), (9, true), (10, true), (11, false)] (fun w => St _ _ [.blk b3 (.cells (exL e (some ⟨gb, go, none⟩) cap).toArray 63 (0, 0))] w) (by exact st.drop (by repeat (first | exact sl0 | apply sl1 | apply sl2))) (by kernel_rfl) (by repeat (first | exact okQ_body | refine okQ_then ?_ | refine okQ_block ?_)) rfl (by kernel_rfl) ?_
     intro w cd; replace st := st.call0 cd; clear cd
     have hS : St _ _ [.blk b3 (.cells (exL e (some ⟨gb, go, none⟩) cap).toArray 63 (0, 0))] w := (by exact st.drop (by repeat (first | exact sl0 | apply sl1 | apply sl2)))
     refine vp_take rfl rfl rfl hS (fun w st => y_mv rfl) ?_
     refine vp_take rfl rfl rfl hS (fun w st => (by exact y_faz (k := 4) rfl underlying63 rfl rfl sizeOf61 rfl)) ?_
     refine vp_take rfl rfl rfl hS (fun w st => (by exact y_ld st 0 rfl isAgg61 rfl rfl)) ?_
     refine vp_take rfl rfl rfl hS (fun w st => (by exact y_ia (k := 0) rfl rfl underlying61 sizeOf63 rfl (by omega))) ?_
     refine vp_take rfl rfl rfl hS (fun w st => (by exact y_ldca (exL x o0 c0) rfl isAgg63 sizeOf63 rfl (fun i v hi => st.chg.cell (hc0 i v hi) (hW.notin hgS)))) ?_
     refine vp_take rfl rfl rfl hS (fun w st => (by exact y_faz (k := 4) rfl underlying63 rfl rfl sizeOf61 rfl)) ?_
     refine vp_take rfl rfl rfl hS (fun w st => (by exact y_ld st 0 rfl isAgg61 rfl rfl)) ?_
     refine vp_take rfl rfl rfl hS (fun w st => (by exact y_ia (k := 0) rfl rfl underlying61 sizeOf63 rfl (by omega))) ?_
     refine vp_take rfl rfl rfl hS (fun w st => y_fa0 rfl underlying63 rfl rfl sizeOf59 rfl) ?_
     refine vp_take rfl rfl rfl hS (fun w st => (by exact y_ldc rfl isAgg59 (st.chg.cell (hc0 0 _ rfl) (hW.notin hgS)))) ?_
     refine vp_take rfl rfl rfl hS (fun w st => y_eqi rfl rfl) ?_
     refine vp_do rfl (e_call [_, _, _] rfl rfl call118 rfl (rkid_any x (fun bw v F w l hV hW hn => ih (szo x) (by have := mem_size hx; have := szo_kids e; omega) x rfl d1 hR1 (hok.kid hx) bw v F w l hV hW hn) _ _ _ bw _ _ _ (hV0.kept (hsame st.chg)) (by exact st.wrGet (i := 1) rfl) (Nat.le_trans hn0 st.chg.size)) ?_)
     rintro _ w ⟨rfl, hp⟩
     obtain ⟨v, st⟩ := st.wr (i := 1) rfl hp
     dsimp only [setNth] at st
     refine vp_next (by exact st.drop (by repeat (first | exact sl0 | apply sl1 | apply sl2))) ?_; intro hS
     refine vp_end (vq_block ?_)
     refine vq_ret0 (.inr rfl) results92 ?_
     refine ⟨_, rfl, ?_⟩
     refine ⟨rfl, ?_⟩
     first
      | (have hm : many = true := by assumption
         subst hm
         exact (st.wrDone (i := 1) rfl).over hb)
      | exact (st.wrDone (i := 1) rfl).eq (by first | rw [txtE_1 (e := e) (by assumption)] | rw [txtE_2 (e := e) (by assumption)] | (rw [txtE_3 (e := e) (by assumption) hkx]; simp only [List.append_assoc]) | (rw [txtE_4 (e := e) (by assumption) hkx]; simp only [List.append_assoc]))
    ·
     intro hc56
     try simp only [dn] at hc56
     have hk4 : e.k = 4 := by rcases rightE_kind hR with h | h | h | h <;> first | exact h | (exfalso; omega)
     obtain ⟨x, y, hkx, ⟨d1, hR1⟩, d2, hR2⟩ := rightE_inv4 hR hk4
     have hx : e.kids[0]? = some x := by rw [hkx]; rfl
     have hy : e.kids[1]? = some y := by rw [hkx]; rfl
     have hk2 : e.kids.length = 2 := by rw [hkx]; rfl
     obtain ⟨gb, go, rfl, hgS, hgl, hg⟩ := ExRow.at hr (by omega)
     obtain ⟨o0, c0, hV0, hr0, hc0⟩ := hg 0 x hx
     obtain ⟨o1, c1, hV1, hr1, hc1⟩ := hg 1 y hy
     refine vc_seq ?_
     refine vc_draw Tryd.mixed [(0, true), (1, true), (2, true), (3, true), (4, true), (5, true), (6, true), (7, true), (8, true), (9, true), (10, true), (11, false), (12, false)] (fun w => St _ _ [.blk b3 (.cells (exL e (some ⟨gb, go, none⟩) cap).toArray 63 (0, 0))] w) (by exact st.drop (by repeat (first | exact sl0 | apply sl1 | apply sl2))) (by kernel_rfl) (by repeat (first | exact okQ_body | refine okQ_then ?_ | refine okQ_block ?_)) rfl (by kernel_rfl) ?_
     intro w cd; replace st := st.call0 cd; clear cd
     have hS : St _ _ [.blk b3 (.cells (exL e (some ⟨gb, go, none⟩) cap).toArray 63 (0, 0))] w := (by exact st.drop (by repeat (first | exact sl0 | apply sl1 | apply sl2)))
     refine vp_take rfl rfl rfl hS (fun w st => y_mv rfl) ?_
     refine vp_take rfl rfl rfl hS (fun w st => (by exact y_faz (k := 4) rfl underlying63 rfl rfl sizeOf61 rfl)) ?_
     refine vp_take rfl rfl rfl hS (fun w st => (by exact y_ld st 0 rfl isAgg61 rfl rfl)) ?_
     refine vp_take rfl rfl rfl hS (fun w st => (by exact y_ia (k := 0) rfl rfl underlying61 sizeOf63 rfl (by omega))) ?_
     refine vp_take rfl rfl rfl hS (fun w st => (by exact y_ldca (exL x o0 c0) rfl isAgg63 sizeOf63 rfl (fun i v hi => st.chg.cell (hc0 i v hi) (hW.notin hgS)))) ?_
     refine vp_take rfl rfl rfl hS (fun w st => (by exact y_faz (k := 1) rfl underlying63 rfl rfl sizeOf60 rfl)) ?_
     refine vp_take rfl rfl rfl hS (fun w st => (by exact y_ld st 0 rfl isAgg60 rfl rfl)) ?_
     refine vp_take rfl rfl rfl hS (fun w st => (by exact y_faz (k := 4) rfl underlying63 rfl rfl sizeOf61 rfl)) ?_
     refine vp_take rfl rfl rfl hS (fun w st => (by exact y_ld st 0 rfl isAgg61 rfl rfl)) ?_
     refine vp_take rfl rfl rfl hS (fun w st => (by exact y_ia (k := 0) rfl rfl underlying61 sizeOf63 rfl (by omega))) ?_
     refine vp_take rfl rfl rfl hS (fun w st => (by exact y_ldca (exL x o0 c0) rfl isAgg63 sizeOf63 rfl (fun i v hi => st.chg.cell (hc0 i v hi) (hW.notin hgS)))) ?_
     refine vp_do rfl (e_call [_, _, _] rfl rfl call119 rfl (rinner_any _ hok.op x false _ _ _ (hok.kid hx)) ?_)
     rintro _ w ⟨rfl, cw⟩
     replace st := st.call0 cw
     refine vp_next (by exact st.drop (by repeat (first | exact sl0 | apply sl1 | apply sl2))) ?_; intro hS
     refine vp_do rfl (e_call [_, _, _] rfl rfl call118 rfl (rkid_any x (fun bw v F w l hV hW hn => ih (szo x) (by have := mem_size hx; have := szo_kids e; omega) x rfl d1 hR1 (hok.kid hx) bw v F w l hV hW hn) _ _ _ bw _ _ _ (hV0.kept (hsame st.chg)) (by exact st.wrGet (i := 1) rfl) (Nat.le_trans hn0 st.chg.size)) ?_)
     rintro _ w ⟨rfl, hp⟩
     obtain ⟨v, st⟩ := st.wr (i := 1) rfl hp
     dsimp only [setNth] at st
     refine vp_next (by exact st.drop (by repeat (first | exact sl0 | apply sl1 | apply sl2))) ?_; intro hS
     refine vp_end (vq_then (vc_keep [(0, _), (3, _)] ⟨rfl, rfl, trivial⟩ (vc_seq (vc_region ?_))))
     refine vc_y rfl rfl (y_mv rfl) ?_
     refine vc_y rfl rfl ((by exact y_faz (k := 1) rfl underlying63 rfl rfl sizeOf60 rfl)) ?_
     refine vc_y rfl rfl ((by exact y_ld st 0 rfl isAgg60 rfl rfl)) ?_
     refine vc_e (e_call [_] rfl rfl call117 rfl (rshow_any _ hok.op.1 _) ?_)
     rintro _ w ⟨rfl, cw⟩
     replace st := st.call0 cw
     iterate 2 refine vc_y rfl rfl (y_cat rfl rfl (by have := shwO_len e.op; simp only [List.length_append, List.length_cons, List.length_nil]; omega)) ?_
     refine vc_e (e_call [_, _] rfl rfl call24 rfl (rput_any bw _ _ _ _ (by exact st.wrGet (i := 1) rfl) (Nat.le_trans hn0 st.chg.size) (by have := shwO_len e.op; simp only [List.length_append, List.length_cons, List.length_nil]; omega)) ?_)
     rintro _ w ⟨rfl, hp⟩
     obtain ⟨v, st⟩ := st.wr (i := 1) rfl hp
     dsimp only [setNth] at st
     refine vc_end (vq_then (vc_keep [(0, _), (3, _)] ⟨rfl, rfl, trivial⟩ ?_))
     refine vc_draw Tryd.mixed [(0, true), (1, true), (2, true), (3, true), (4, true), (5, true), (6, true), (7, true), (8, true), (9, true), (10, true), (11, false), (12, false)] (fun w => St _ _ [.blk b3 (.cells (exL e (some ⟨gb, go, none⟩) cap).toArray 63 (0, 0))] w) (by exact st.drop (by repeat (first | exact sl0 | apply sl1 | apply sl2))) (by kernel_rfl) (by repeat (first | exact okQ_body | refine okQ_then ?_ | refine okQ_block ?_)) rfl (by kernel_rfl) ?_
     intro w cd; replace st := st.call0 cd; clear cd
     have hS : St _ _ [.blk b3 (.cells (exL e (some ⟨gb, go, none⟩) cap).toArray 63 (0, 0))] w := (by exact st.drop (by repeat (first | exact sl0 | apply sl1 | apply sl2)))
     refine vp_take rfl rfl rfl hS (fun w st => y_mv rfl) ?_
     refine vp_take rfl rfl rfl hS (fun w st => (by exact y_faz (k := 4) rfl underlying63 rfl rfl sizeOf61 rfl)) ?_
     refine vp_take rfl rfl rfl hS (fun w st => (by exact y_ld st 0 rfl isAgg61 rfl rfl)) ?_
     refine vp_take rfl rfl rfl hS (fun w st => (by exact y_ia (k := 1) rfl rfl underlying61 sizeOf63 rfl (by omega))) ?_
     refine vp_take rfl rfl rfl hS (fun w st => (by exact y_ldca (exL y o1 c1) rfl isAgg63 sizeOf63 rfl (fun i v hi => st.chg.cell (hc1 i v hi) (hW.notin hgS)))) ?_
     refine vp_take rfl rfl rfl hS (fun w st => (by exact y_faz (k := 1) rfl underlying63 rfl rfl sizeOf60 rfl)) ?_
     refine vp_take rfl rfl rfl hS (fun w st => (by exact y_ld st 0 rfl isAgg60 rfl rfl)) ?_
     refine vp_take rfl rfl rfl hS (fun w st => (by exact y_faz (k := 4) rfl underlying63 rfl rfl sizeOf61 rfl)) ?_
     refine vp_take rfl rfl rfl hS (fun w st => (by exact y_ld st 0 rfl isAgg61 rfl rfl)) ?_
     refine vp_take rfl rfl rfl hS (fun w st => (by exact y_ia (k := 1) rfl rfl underlying61 sizeOf63 rfl (by omega))) ?_
     refine vp_take rfl rfl rfl hS (fun w st => (by exact y_ldca (exL y o1 c1) rfl isAgg63 sizeOf63 rfl (fun i v hi => st.chg.cell (hc1 i v hi) (hW.notin hgS)))) ?_
     refine vp_do rfl (e_call [_, _, _] rfl rfl call119 rfl (rinner_any _ hok.op y true _ _ _ (hok.kid hy)) ?_)
     rintro _ w ⟨rfl, cw⟩
     replace st := st.call0 cw
     refine vp_next (by exact st.drop (by repeat (first | exact sl0 | apply sl1 | apply sl2))) ?_; intro hS
     refine vp_do rfl (e_call [_, _, _] rfl rfl call118 rfl (rkid_any y (fun bw v F w l hV hW hn => ih (szo y) (by have := mem_size hy; have := szo_kids e; omega) y rfl d2 hR2 (hok.kid hy) bw v F w l hV hW hn) _ _ _ bw _ _ _ (hV1.kept (hsame st.chg)) (by exact st.wrGet (i := 1) rfl) (Nat.le_trans hn0 st.chg.size)) ?_)
     rintro _ w ⟨rfl, hp⟩
     obtain ⟨v, st⟩ := st.wr (i := 1) rfl hp
     dsimp only [setNth] at st
     refine vp_next (by exact st.drop (by repeat (first | exact sl0 | apply sl1 | apply sl2))) ?_; intro hS
     refine vp_end (vq_block ?_)
     refine vq_ret0 (.inr rfl) results92 ?_
     refine ⟨_, rfl, ?_⟩
     refine ⟨rfl, ?_⟩
     first
      | (have hm : many = true := by assumption
         subst hm
         exact (st.wrDone (i := 1) rfl).over hb)
      | exact (st.wrDone (i := 1) rfl).eq (by first | rw [txtE_1 (e := e) (by assumption)] | rw [txtE_2 (e := e) (by assumption)] | (rw [txtE_3 (e := e) (by assumption) hkx]; simp only [List.append_assoc]) | (rw [txtE_4 (e := e) (by assumption) hkx]; simp only [List.append_assoc]))

end
end Go.Proofs.YtnmhlpnapgojjaaDoor
