/- A part of the proof: contracts of functions and plain laws; each theorem says its own conditions. -/
import Derived.Test.YtnmhlpnapgojjaaDoorK2
import Derived.Test.YtnmhlpnapgojjaaDoorK1
namespace Go.Proofs.YtnmhlpnapgojjaaDoor
open Go.RowKit Sx LexS _root_.Go.Proofs.Tryd
set_option linter.unusedVariables false
set_option linter.unusedSimpArgs false
section
variable {S : Nat → Prop}

theorem kidx_any (x : Ex) (hrec : ∀ (d : Nat), d ≤ 64 → ∀ (l : List Value) (w : World), ExV w S x l → Sig w → Ret Tryd.prog 63 [.agg l.toArray, .int .i64 (d : Int)] w fun v w' => v = .bool (rightE x d) ∧ Chg [] w w') (d : Nat) (hd : d ≤ 64) (b : Bool) (o : Option Addr) (c : Nat) (w : World)
    (hV : ExV w S x (exL x o c)) (hs : Sig w) (b3 : Nat) (hc : w.cell? ⟨b3, 0, none⟩ = some (.int .i64 (d : Int))) : Ret Tryd.prog 93 [.agg (exL x o c).toArray, .bool b, .pointer (some ⟨b3, 0, none⟩)] w fun v w' => v = .bool (rightE x (if b = true then d + 1 else d)) ∧ Chg [] w w' := by
 refine ret_of [_, _, _] func93 rfl ntmps93 rfl ?_
 have st := St.init w []
 refine vc_seq (vc_region ?_)
 refine vc_e (e_bx (l := [_, _, _, _, _, _]) st rfl rfl rfl rfl ?_)
 intro b3 w hb3 st
 refine vc_y rfl rfl (y_as rfl) ?_
 refine vc_end (vq_then (vc_keep [(1, _), (2, _), (3, _)] ⟨rfl, rfl, rfl, trivial⟩ (vc_seq (vc_seq (vc_region ?_)))))
 refine vc_y rfl rfl (y_mv rfl) ?_
 refine vc_end (vq_then (vc_keep [(2, _), (3, _), (6, _)] ⟨rfl, rfl, rfl, trivial⟩ ?_))
 refine vc_ifs rfl ?_ ?_
 ·
  intro hc6
  try simp only [dn] at hc6
  refine vc_seq (vc_region ?_)
  refine vc_y rfl rfl ((by exact y_ldc rfl isAgg3 (st.chg.cell hc (by simp)))) ?_
  refine vc_y rfl rfl (y_lss rfl rfl) ?_
  refine vc_e (e_mvb rfl rfl rfl ?_ ?_)
  ·
   intro hg9
   try simp only [dn] at hg9
   refine vc_y rfl rfl ((by exact y_lda (vs := [_, _, _, _, _, _]) st 0 rfl isAgg63 sizeOf63 rfl rfl)) ?_
   refine vc_y rfl rfl ((by exact y_ldc rfl isAgg3 (st.chg.cell hc (by simp)))) ?_
   refine vc_y rfl rfl (y_add rfl rfl (by omega : _ = ((d + 1 : Nat) : Int)) (by omega) (by omega)) ?_
   refine vc_e (e_call [_, _] rfl rfl call63 rfl (hrec (d + 1) (by omega) _ _ (hV.kept (Same.of_nil st.chg)) (hs.kept st.chg)) ?_)
   rintro _ w ⟨rfl, cw⟩
   replace st := st.call0 cw
   refine vc_y rfl rfl (y_pickt rfl rfl) ?_
   refine vc_y rfl rfl (y_as rfl) ?_
   refine vc_end (vq_then (vc_keep [(5, _)] ⟨rfl, trivial⟩ (vc_ret (vq_then_ret ?_))))
   refine vq_ret1 st (.inl rfl) results93 (.tmp rfl) ?_
   refine ⟨_, rfl, ?_⟩
   refine ⟨?_, st.chg⟩
   rw [if_pos hc6]
  ·
   intro hg9
   try simp only [dn] at hg9
   iterate 4 refine vc_e (e_skip rfl rfl ?_)
   refine vc_y rfl rfl (y_pickf rfl rfl) ?_
   refine vc_y rfl rfl (y_as rfl) ?_
   refine vc_end (vq_then (vc_keep [(5, _)] ⟨rfl, trivial⟩ (vc_ret (vq_then_ret ?_))))
   refine vq_ret1 st (.inl rfl) results93 (.tmp rfl) ?_
   refine ⟨_, rfl, ?_⟩
   refine ⟨?_, st.chg⟩
   rw [if_pos hc6, rightE_big (by omega)]
 ·
  intro hc6
  try simp only [dn] at hc6
  refine vc_code_skip (vq_then (vc_keep [(2, _), (3, _)] ⟨rfl, rfl, trivial⟩ (vc_seq (vc_region ?_))))
  refine vc_y rfl rfl ((by exact y_lda (vs := [_, _, _, _, _, _]) st 0 rfl isAgg63 sizeOf63 rfl rfl)) ?_
  refine vc_y rfl rfl ((by exact y_ldc rfl isAgg3 (st.chg.cell hc (by simp)))) ?_
  refine vc_e (e_call [_, _] rfl rfl call63 rfl (hrec d hd _ _ (hV.kept (Same.of_nil st.chg)) (hs.kept st.chg)) ?_)
  rintro _ w ⟨rfl, cw⟩
  replace st := st.call0 cw
  refine vc_y rfl rfl (y_as rfl) ?_
  refine vc_end (vq_then (vc_keep [(5, _)] ⟨rfl, trivial⟩ (vc_ret ?_)))
  refine vq_ret1 st (.inl rfl) results93 (.tmp rfl) ?_
  refine ⟨_, rfl, ?_⟩
  refine ⟨?_, st.chg⟩
  rw [if_neg (by rw [hc6]; simp)]

theorem op_one {k : Int} : oneOp k = true ↔ k = 17 ∨ k = 18 := by unfold oneOp; simp

set_option maxHeartbeats 2000000 in
theorem expr_any : ∀ (n : Nat) (e : Ex), szo e = n → ∀ (d : Nat), d ≤ 64 → ∀ (l : List Value) (w : World), ExV w S e l → Sig w → Ret Tryd.prog 63 [.agg l.toArray, .int .i64 (d : Int)] w fun v w' => v = .bool (rightE e d) ∧ Chg [] w w' := by
 intro n
 refine Nat.strongRecOn n fun n ih => ?_
 intro e hn d hd l w hV hs
 subst hn
 obtain ⟨oa, cap, rfl, hr⟩ := ExV.inv hV
 refine ret_of [_, _] func63 rfl ntmps63 rfl ?_
 have st := St.init w []
 refine vc_seq (vc_region ?_)
 refine vc_e (e_bx (l := [_, _, _, _, _, _]) st rfl rfl rfl rfl ?_)
 intro b2 w hb2 st
 refine vc_e (e_bx (l := [_]) st rfl rfl rfl rfl ?_)
 intro b3 w hb3 st
 refine vc_y rfl rfl (y_as rfl) ?_
 refine vc_end (vq_then (vc_keep [(2, _), (3, _)] ⟨rfl, rfl, trivial⟩ (vc_seq (vc_region ?_))))
 refine vc_y rfl rfl (y_mf [] [_] rfl rfl) ?_
 refine vc_y rfl rfl (y_as rfl) ?_
 refine vc_end (vq_then (vc_keep [(2, _), (3, _), (5, _)] ⟨rfl, rfl, rfl, trivial⟩ (vc_seq (vc_seq (vc_region ?_)))))
 refine vc_y rfl rfl (y_fa0 rfl underlying63 rfl rfl sizeOf59 rfl) ?_
 refine vc_y rfl rfl ((by exact y_ld st 1 rfl isAgg59 rfl rfl)) ?_
 refine vc_end (vq_then (vc_keep [(2, _), (3, _), (5, _), (12, _)] ⟨rfl, rfl, rfl, rfl, trivial⟩ (vc_block (vc_seq (vc_region ?_)))))
 refine vc_y rfl rfl (y_eqi rfl rfl) ?_
 refine vc_y rfl rfl (y_as rfl) ?_
 refine vc_end (vq_then (vc_keep [(2, _), (3, _), (5, _), (12, _), (13, _)] ⟨rfl, rfl, rfl, rfl, rfl, trivial⟩ ?_))
 refine vc_ifs rfl ?_ ?_
 ·
  intro hc13
  try simp only [dn] at hc13
  refine vc_seq (vc_region ?_)
  refine vc_y rfl rfl ((by exact y_faz (k := 2) rfl underlying63 rfl rfl sizeOf2 rfl)) ?_
  refine vc_y rfl rfl ((by exact y_ld st 1 rfl isAgg2 rfl rfl)) ?_
  refine vc_y rfl rfl (y_geq rfl rfl) ?_
  refine vc_e (e_mvb rfl rfl rfl ?_ ?_)
  ·
   intro hg18
   try simp only [dn] at hg18
   refine vc_y rfl rfl ((by exact y_faz (k := 1) rfl underlying63 rfl rfl sizeOf60 rfl)) ?_
   refine vc_y rfl rfl ((by exact y_ld st 1 rfl isAgg60 rfl rfl)) ?_
   refine vc_y rfl rfl (y_eqi rfl rfl) ?_
   refine vc_y rfl rfl (y_pickt rfl rfl) ?_
   refine vc_e (e_mvb rfl rfl rfl ?_ ?_)
   ·
    intro hg23
    try simp only [dn] at hg23
    refine vc_y rfl rfl ((by exact y_faz (k := 3) rfl underlying63 rfl rfl sizeOf9 rfl)) ?_
    refine vc_y rfl rfl ((by exact y_ld st 1 rfl isAgg9 rfl rfl)) ?_
    refine vc_y rfl rfl (y_eqs rfl rfl) ?_
    refine vc_y rfl rfl (y_pickt rfl rfl) ?_
    refine vc_e (e_mvb rfl rfl rfl ?_ ?_)
    ·
     intro hg28
     try simp only [dn] at hg28
     refine vc_y rfl rfl ((by exact y_faz (k := 4) rfl underlying63 rfl rfl sizeOf61 rfl)) ?_
     refine vc_y rfl rfl ((by exact y_ld st 1 rfl isAgg61 rfl rfl)) ?_
     refine vc_y rfl rfl (y_lensl rfl underlying61) ?_
     refine vc_y rfl rfl (y_eqi rfl rfl) ?_
     refine vc_y rfl rfl (y_pickt rfl rfl) ?_
     refine vc_y rfl rfl (y_as rfl) ?_
     refine vc_end (vq_then (vc_keep [(4, _)] ⟨rfl, trivial⟩ (vc_ret (vq_block_ret (vq_then_ret ?_)))))
     refine vq_ret1 st (.inl rfl) results63 (.tmp rfl) ?_
     refine ⟨_, rfl, ?_⟩
     refine ⟨?_, st.chg⟩
     show Value.bool _ = Value.bool _
     congr 1
     clear st
     symm
     first
      | (rw [rightE_1 (e := e) (by assumption) hd]; clear hV hr hs ih; rw [Bool.eq_iff_iff]; simp_all <;> omega)
      | (rw [rightE_2 (e := e) (by assumption) hd]; clear hV hr hs ih; rw [Bool.eq_iff_iff]; simp_all <;> omega)
      | exact rightE_0 (e := e) (by assumption) (by assumption) (by assumption) (by assumption)
      | exact rightE_3n (e := e) (by assumption) (by first | exact .inl (by omega) | exact .inr (.inr (.inl (by assumption))) | exact .inr (.inr (.inr (by assumption))) | exact .inr (.inl (by simp [oneOp]; omega)))
      | exact rightE_3d (e := e) (by assumption) (by omega)
      | exact rightE_4n (e := e) (by assumption) (by first | exact .inl (by omega) | exact .inr (.inr (.inl (by assumption))) | exact .inr (.inr (.inr (by assumption))) | exact .inr (.inl (by assumption)))
      | (rw [rightE_3 (e := e) (by assumption) hd (one_form (by omega) hx), op_one.2 (by omega)]; first | rw [if_pos (by assumption)] | rw [if_neg (by assumption)]
         first | (rw [rightE_big (e := x) (by omega)]; simp) | (clear hV hr hs ih hg hc0 hV0 hr0; simp_all))
      | (rw [rightE_4 (e := e) (by assumption) hd (two_form hk2 hx hy)]
         clear hV hr hs ih hg hc0 hc1 hV0 hV1 hr0 hr1
         first | rw [inn_f (x := x) (by assumption)] | rw [inn_n (x := x) (by assumption)]
         first | rw [inn_t (x := y) (by assumption)] | rw [inn_n (x := y) (by assumption)] | skip
         simp_all)
    ·
     intro hg28
     try simp only [dn] at hg28
     iterate 4 refine vc_e (e_skip rfl rfl ?_)
     refine vc_y rfl rfl (y_pickf rfl rfl) ?_
     refine vc_y rfl rfl (y_as rfl) ?_
     refine vc_end (vq_then (vc_keep [(4, _)] ⟨rfl, trivial⟩ (vc_ret (vq_block_ret (vq_then_ret ?_)))))
     refine vq_ret1 st (.inl rfl) results63 (.tmp rfl) ?_
     refine ⟨_, rfl, ?_⟩
     refine ⟨?_, st.chg⟩
     show Value.bool _ = Value.bool _
     congr 1
     clear st
     symm
     first
      | (rw [rightE_1 (e := e) (by assumption) hd]; clear hV hr hs ih; rw [Bool.eq_iff_iff]; simp_all <;> omega)
      | (rw [rightE_2 (e := e) (by assumption) hd]; clear hV hr hs ih; rw [Bool.eq_iff_iff]; simp_all <;> omega)
      | exact rightE_0 (e := e) (by assumption) (by assumption) (by assumption) (by assumption)
      | exact rightE_3n (e := e) (by assumption) (by first | exact .inl (by omega) | exact .inr (.inr (.inl (by assumption))) | exact .inr (.inr (.inr (by assumption))) | exact .inr (.inl (by simp [oneOp]; omega)))
      | exact rightE_3d (e := e) (by assumption) (by omega)
      | exact rightE_4n (e := e) (by assumption) (by first | exact .inl (by omega) | exact .inr (.inr (.inl (by assumption))) | exact .inr (.inr (.inr (by assumption))) | exact .inr (.inl (by assumption)))
      | (rw [rightE_3 (e := e) (by assumption) hd (one_form (by omega) hx), op_one.2 (by omega)]; first | rw [if_pos (by assumption)] | rw [if_neg (by assumption)]
         first | (rw [rightE_big (e := x) (by omega)]; simp) | (clear hV hr hs ih hg hc0 hV0 hr0; simp_all))
      | (rw [rightE_4 (e := e) (by assumption) hd (two_form hk2 hx hy)]
         clear hV hr hs ih hg hc0 hc1 hV0 hV1 hr0 hr1
         first | rw [inn_f (x := x) (by assumption)] | rw [inn_n (x := x) (by assumption)]
         first | rw [inn_t (x := y) (by assumption)] | rw [inn_n (x := y) (by assumption)] | skip
         simp_all)
   ·
    intro hg23
    try simp only [dn] at hg23
    iterate 3 refine vc_e (e_skip rfl rfl ?_)
    refine vc_y rfl rfl (y_pickf rfl rfl) ?_
    refine vc_y rfl rfl (y_mv rfl) ?_
    iterate 4 refine vc_e (e_skip rfl rfl ?_)
    refine vc_y rfl rfl (y_pickf rfl rfl) ?_
    refine vc_y rfl rfl (y_as rfl) ?_
    refine vc_end (vq_then (vc_keep [(4, _)] ⟨rfl, trivial⟩ (vc_ret (vq_block_ret (vq_then_ret ?_)))))
    refine vq_ret1 st (.inl rfl) results63 (.tmp rfl) ?_
    refine ⟨_, rfl, ?_⟩
    refine ⟨?_, st.chg⟩
    show Value.bool _ = Value.bool _
    congr 1
    clear st
    symm
    first
     | (rw [rightE_1 (e := e) (by assumption) hd]; clear hV hr hs ih; rw [Bool.eq_iff_iff]; simp_all <;> omega)
     | (rw [rightE_2 (e := e) (by assumption) hd]; clear hV hr hs ih; rw [Bool.eq_iff_iff]; simp_all <;> omega)
     | exact rightE_0 (e := e) (by assumption) (by assumption) (by assumption) (by assumption)
     | exact rightE_3n (e := e) (by assumption) (by first | exact .inl (by omega) | exact .inr (.inr (.inl (by assumption))) | exact .inr (.inr (.inr (by assumption))) | exact .inr (.inl (by simp [oneOp]; omega)))
     | exact rightE_3d (e := e) (by assumption) (by omega)
     | exact rightE_4n (e := e) (by assumption) (by first | exact .inl (by omega) | exact .inr (.inr (.inl (by assumption))) | exact .inr (.inr (.inr (by assumption))) | exact .inr (.inl (by assumption)))
     | (rw [rightE_3 (e := e) (by assumption) hd (one_form (by omega) hx), op_one.2 (by omega)]; first | rw [if_pos (by assumption)] | rw [if_neg (by assumption)]
        first | (rw [rightE_big (e := x) (by omega)]; simp) | (clear hV hr hs ih hg hc0 hV0 hr0; simp_all))
     | (rw [rightE_4 (e := e) (by assumption) hd (two_form hk2 hx hy)]
        clear hV hr hs ih hg hc0 hc1 hV0 hV1 hr0 hr1
        first | rw [inn_f (x := x) (by assumption)] | rw [inn_n (x := x) (by assumption)]
        first | rw [inn_t (x := y) (by assumption)] | rw [inn_n (x := y) (by assumption)] | skip
        simp_all)
  ·
   intro hg18
   try simp only [dn] at hg18
   iterate 3 refine vc_e (e_skip rfl rfl ?_)
   refine vc_y rfl rfl (y_pickf rfl rfl) ?_
   refine vc_y rfl rfl (y_mv rfl) ?_
   iterate 3 refine vc_e (e_skip rfl rfl ?_)
   refine vc_y rfl rfl (y_pickf rfl rfl) ?_
   refine vc_y rfl rfl (y_mv rfl) ?_
   iterate 4 refine vc_e (e_skip rfl rfl ?_)
   refine vc_y rfl rfl (y_pickf rfl rfl) ?_
   refine vc_y rfl rfl (y_as rfl) ?_
   refine vc_end (vq_then (vc_keep [(4, _)] ⟨rfl, trivial⟩ (vc_ret (vq_block_ret (vq_then_ret ?_)))))
   refine vq_ret1 st (.inl rfl) results63 (.tmp rfl) ?_
   refine ⟨_, rfl, ?_⟩
   refine ⟨?_, st.chg⟩
   show Value.bool _ = Value.bool _
   congr 1
   clear st
   symm
   first
    | (rw [rightE_1 (e := e) (by assumption) hd]; clear hV hr hs ih; rw [Bool.eq_iff_iff]; simp_all <;> omega)
    | (rw [rightE_2 (e := e) (by assumption) hd]; clear hV hr hs ih; rw [Bool.eq_iff_iff]; simp_all <;> omega)
    | exact rightE_0 (e := e) (by assumption) (by assumption) (by assumption) (by assumption)
    | exact rightE_3n (e := e) (by assumption) (by first | exact .inl (by omega) | exact .inr (.inr (.inl (by assumption))) | exact .inr (.inr (.inr (by assumption))) | exact .inr (.inl (by simp [oneOp]; omega)))
    | exact rightE_3d (e := e) (by assumption) (by omega)
    | exact rightE_4n (e := e) (by assumption) (by first | exact .inl (by omega) | exact .inr (.inr (.inl (by assumption))) | exact .inr (.inr (.inr (by assumption))) | exact .inr (.inl (by assumption)))
    | (rw [rightE_3 (e := e) (by assumption) hd (one_form (by omega) hx), op_one.2 (by omega)]; first | rw [if_pos (by assumption)] | rw [if_neg (by assumption)]
       first | (rw [rightE_big (e := x) (by omega)]; simp) | (clear hV hr hs ih hg hc0 hV0 hr0; simp_all))
    | (rw [rightE_4 (e := e) (by assumption) hd (two_form hk2 hx hy)]
       clear hV hr hs ih hg hc0 hc1 hV0 hV1 hr0 hr1
       first | rw [inn_f (x := x) (by assumption)] | rw [inn_n (x := x) (by assumption)]
       first | rw [inn_t (x := y) (by assumption)] | rw [inn_n (x := y) (by assumption)] | skip
       simp_all)
 ·
  intro hc13
  try simp only [dn] at hc13
  refine vc_seq (vc_region ?_)
  refine vc_y rfl rfl (y_eqi rfl rfl) ?_
  refine vc_y rfl rfl (y_as rfl) ?_
  refine vc_end (vq_then (vc_keep [(2, _), (3, _), (5, _), (12, _), (34, _)] ⟨rfl, rfl, rfl, rfl, rfl, trivial⟩ ?_))
  refine vc_ifs rfl ?_ ?_
  ·
   intro hc34
   try simp only [dn] at hc34
   refine vc_seq (vc_region ?_)
   refine vc_y rfl rfl ((by exact y_faz (k := 3) rfl underlying63 rfl rfl sizeOf9 rfl)) ?_
   refine vc_y rfl rfl ((by exact y_ld st 1 rfl isAgg9 rfl rfl)) ?_
   refine vc_e (e_call [_] rfl rfl call36 rfl (name_any _ _) ?_)
   rintro _ _ ⟨rfl, rfl⟩
   refine vc_e (e_mvb rfl rfl rfl ?_ ?_)
   ·
    intro hg39
    try simp only [dn] at hg39
    refine vc_y rfl rfl ((by exact y_faz (k := 1) rfl underlying63 rfl rfl sizeOf60 rfl)) ?_
    refine vc_y rfl rfl ((by exact y_ld st 1 rfl isAgg60 rfl rfl)) ?_
    refine vc_y rfl rfl (y_eqi rfl rfl) ?_
    refine vc_y rfl rfl (y_pickt rfl rfl) ?_
    refine vc_e (e_mvb rfl rfl rfl ?_ ?_)
    ·
     intro hg44
     try simp only [dn] at hg44
     refine vc_y rfl rfl ((by exact y_faz (k := 2) rfl underlying63 rfl rfl sizeOf2 rfl)) ?_
     refine vc_y rfl rfl ((by exact y_ld st 1 rfl isAgg2 rfl rfl)) ?_
     refine vc_y rfl rfl (y_eqi rfl rfl) ?_
     refine vc_y rfl rfl (y_pickt rfl rfl) ?_
     refine vc_e (e_mvb rfl rfl rfl ?_ ?_)
     ·
      intro hg49
      try simp only [dn] at hg49
      refine vc_y rfl rfl ((by exact y_faz (k := 4) rfl underlying63 rfl rfl sizeOf61 rfl)) ?_
      refine vc_y rfl rfl ((by exact y_ld st 1 rfl isAgg61 rfl rfl)) ?_
      refine vc_y rfl rfl (y_lensl rfl underlying61) ?_
      refine vc_y rfl rfl (y_eqi rfl rfl) ?_
      refine vc_y rfl rfl (y_pickt rfl rfl) ?_
      refine vc_y rfl rfl (y_as rfl) ?_
      refine vc_end (vq_then (vc_keep [(4, _)] ⟨rfl, trivial⟩ (vc_ret (vq_block_ret (vq_then_ret ?_)))))
      refine vq_ret1 st (.inl rfl) results63 (.tmp rfl) ?_
      refine ⟨_, rfl, ?_⟩
      refine ⟨?_, st.chg⟩
      show Value.bool _ = Value.bool _
      congr 1
      clear st
      symm
      first
       | (rw [rightE_1 (e := e) (by assumption) hd]; clear hV hr hs ih; rw [Bool.eq_iff_iff]; simp_all <;> omega)
       | (rw [rightE_2 (e := e) (by assumption) hd]; clear hV hr hs ih; rw [Bool.eq_iff_iff]; simp_all <;> omega)
       | exact rightE_0 (e := e) (by assumption) (by assumption) (by assumption) (by assumption)
       | exact rightE_3n (e := e) (by assumption) (by first | exact .inl (by omega) | exact .inr (.inr (.inl (by assumption))) | exact .inr (.inr (.inr (by assumption))) | exact .inr (.inl (by simp [oneOp]; omega)))
       | exact rightE_3d (e := e) (by assumption) (by omega)
       | exact rightE_4n (e := e) (by assumption) (by first | exact .inl (by omega) | exact .inr (.inr (.inl (by assumption))) | exact .inr (.inr (.inr (by assumption))) | exact .inr (.inl (by assumption)))
       | (rw [rightE_3 (e := e) (by assumption) hd (one_form (by omega) hx), op_one.2 (by omega)]; first | rw [if_pos (by assumption)] | rw [if_neg (by assumption)]
          first | (rw [rightE_big (e := x) (by omega)]; simp) | (clear hV hr hs ih hg hc0 hV0 hr0; simp_all))
       | (rw [rightE_4 (e := e) (by assumption) hd (two_form hk2 hx hy)]
          clear hV hr hs ih hg hc0 hc1 hV0 hV1 hr0 hr1
          first | rw [inn_f (x := x) (by assumption)] | rw [inn_n (x := x) (by assumption)]
          first | rw [inn_t (x := y) (by assumption)] | rw [inn_n (x := y) (by assumption)] | skip
          simp_all)
     ·
      intro hg49
      try simp only [dn] at hg49
      iterate 4 refine vc_e (e_skip rfl rfl ?_)
      refine vc_y rfl rfl (y_pickf rfl rfl) ?_
      refine vc_y rfl rfl (y_as rfl) ?_
      refine vc_end (vq_then (vc_keep [(4, _)] ⟨rfl, trivial⟩ (vc_ret (vq_block_ret (vq_then_ret ?_)))))
      refine vq_ret1 st (.inl rfl) results63 (.tmp rfl) ?_
      refine ⟨_, rfl, ?_⟩
      refine ⟨?_, st.chg⟩
      show Value.bool _ = Value.bool _
      congr 1
      clear st
      symm
      first
       | (rw [rightE_1 (e := e) (by assumption) hd]; clear hV hr hs ih; rw [Bool.eq_iff_iff]; simp_all <;> omega)
       | (rw [rightE_2 (e := e) (by assumption) hd]; clear hV hr hs ih; rw [Bool.eq_iff_iff]; simp_all <;> omega)
       | exact rightE_0 (e := e) (by assumption) (by assumption) (by assumption) (by assumption)
       | exact rightE_3n (e := e) (by assumption) (by first | exact .inl (by omega) | exact .inr (.inr (.inl (by assumption))) | exact .inr (.inr (.inr (by assumption))) | exact .inr (.inl (by simp [oneOp]; omega)))
       | exact rightE_3d (e := e) (by assumption) (by omega)
       | exact rightE_4n (e := e) (by assumption) (by first | exact .inl (by omega) | exact .inr (.inr (.inl (by assumption))) | exact .inr (.inr (.inr (by assumption))) | exact .inr (.inl (by assumption)))
       | (rw [rightE_3 (e := e) (by assumption) hd (one_form (by omega) hx), op_one.2 (by omega)]; first | rw [if_pos (by assumption)] | rw [if_neg (by assumption)]
          first | (rw [rightE_big (e := x) (by omega)]; simp) | (clear hV hr hs ih hg hc0 hV0 hr0; simp_all))
       | (rw [rightE_4 (e := e) (by assumption) hd (two_form hk2 hx hy)]
          clear hV hr hs ih hg hc0 hc1 hV0 hV1 hr0 hr1
          first | rw [inn_f (x := x) (by assumption)] | rw [inn_n (x := x) (by assumption)]
          first | rw [inn_t (x := y) (by assumption)] | rw [inn_n (x := y) (by assumption)] | skip
          simp_all)
    ·
     intro hg44
     try simp only [dn] at hg44
     iterate 3 refine vc_e (e_skip rfl rfl ?_)
     refine vc_y rfl rfl (y_pickf rfl rfl) ?_
     refine vc_y rfl rfl (y_mv rfl) ?_
     iterate 4 refine vc_e (e_skip rfl rfl ?_)
     refine vc_y rfl rfl (y_pickf rfl rfl) ?_
     refine vc_y rfl rfl (y_as rfl) ?_
     refine vc_end (vq_then (vc_keep [(4, _)] ⟨rfl, trivial⟩ (vc_ret (vq_block_ret (vq_then_ret ?_)))))
     refine vq_ret1 st (.inl rfl) results63 (.tmp rfl) ?_
     refine ⟨_, rfl, ?_⟩
     refine ⟨?_, st.chg⟩
     show Value.bool _ = Value.bool _
     congr 1
     clear st
     symm
     first
      | (rw [rightE_1 (e := e) (by assumption) hd]; clear hV hr hs ih; rw [Bool.eq_iff_iff]; simp_all <;> omega)
      | (rw [rightE_2 (e := e) (by assumption) hd]; clear hV hr hs ih; rw [Bool.eq_iff_iff]; simp_all <;> omega)
      | exact rightE_0 (e := e) (by assumption) (by assumption) (by assumption) (by assumption)
      | exact rightE_3n (e := e) (by assumption) (by first | exact .inl (by omega) | exact .inr (.inr (.inl (by assumption))) | exact .inr (.inr (.inr (by assumption))) | exact .inr (.inl (by simp [oneOp]; omega)))
      | exact rightE_3d (e := e) (by assumption) (by omega)
      | exact rightE_4n (e := e) (by assumption) (by first | exact .inl (by omega) | exact .inr (.inr (.inl (by assumption))) | exact .inr (.inr (.inr (by assumption))) | exact .inr (.inl (by assumption)))
      | (rw [rightE_3 (e := e) (by assumption) hd (one_form (by omega) hx), op_one.2 (by omega)]; first | rw [if_pos (by assumption)] | rw [if_neg (by assumption)]
         first | (rw [rightE_big (e := x) (by omega)]; simp) | (clear hV hr hs ih hg hc0 hV0 hr0; simp_all))
      | (rw [rightE_4 (e := e) (by assumption) hd (two_form hk2 hx hy)]
         clear hV hr hs ih hg hc0 hc1 hV0 hV1 hr0 hr1
         first | rw [inn_f (x := x) (by assumption)] | rw [inn_n (x := x) (by assumption)]
         first | rw [inn_t (x := y) (by assumption)] | rw [inn_n (x := y) (by assumption)] | skip
         simp_all)
   ·
    intro hg39
    try simp only [dn] at hg39
    iterate 3 refine vc_e (e_skip rfl rfl ?_)
    refine vc_y rfl rfl (y_pickf rfl rfl) ?_
    refine vc_y rfl rfl (y_mv rfl) ?_
    iterate 3 refine vc_e (e_skip rfl rfl ?_)
    refine vc_y rfl rfl (y_pickf rfl rfl) ?_
    refine vc_y rfl rfl (y_mv rfl) ?_
    iterate 4 refine vc_e (e_skip rfl rfl ?_)
    refine vc_y rfl rfl (y_pickf rfl rfl) ?_
    refine vc_y rfl rfl (y_as rfl) ?_
    refine vc_end (vq_then (vc_keep [(4, _)] ⟨rfl, trivial⟩ (vc_ret (vq_block_ret (vq_then_ret ?_)))))
    refine vq_ret1 st (.inl rfl) results63 (.tmp rfl) ?_
    refine ⟨_, rfl, ?_⟩
    refine ⟨?_, st.chg⟩
    show Value.bool _ = Value.bool _
    congr 1
    clear st
    symm
    first
     | (rw [rightE_1 (e := e) (by assumption) hd]; clear hV hr hs ih; rw [Bool.eq_iff_iff]; simp_all <;> omega)
     | (rw [rightE_2 (e := e) (by assumption) hd]; clear hV hr hs ih; rw [Bool.eq_iff_iff]; simp_all <;> omega)
     | exact rightE_0 (e := e) (by assumption) (by assumption) (by assumption) (by assumption)
     | exact rightE_3n (e := e) (by assumption) (by first | exact .inl (by omega) | exact .inr (.inr (.inl (by assumption))) | exact .inr (.inr (.inr (by assumption))) | exact .inr (.inl (by simp [oneOp]; omega)))
     | exact rightE_3d (e := e) (by assumption) (by omega)
     | exact rightE_4n (e := e) (by assumption) (by first | exact .inl (by omega) | exact .inr (.inr (.inl (by assumption))) | exact .inr (.inr (.inr (by assumption))) | exact .inr (.inl (by assumption)))
     | (rw [rightE_3 (e := e) (by assumption) hd (one_form (by omega) hx), op_one.2 (by omega)]; first | rw [if_pos (by assumption)] | rw [if_neg (by assumption)]
        first | (rw [rightE_big (e := x) (by omega)]; simp) | (clear hV hr hs ih hg hc0 hV0 hr0; simp_all))
     | (rw [rightE_4 (e := e) (by assumption) hd (two_form hk2 hx hy)]
        clear hV hr hs ih hg hc0 hc1 hV0 hV1 hr0 hr1
        first | rw [inn_f (x := x) (by assumption)] | rw [inn_n (x := x) (by assumption)]
        first | rw [inn_t (x := y) (by assumption)] | rw [inn_n (x := y) (by assumption)] | skip
        simp_all)
  ·
   intro hc34
   try simp only [dn] at hc34
   refine vc_seq (vc_region ?_)
   refine vc_y rfl rfl (y_eqi rfl rfl) ?_
   refine vc_y rfl rfl (y_as rfl) ?_
   refine vc_end (vq_then (vc_keep [(2, _), (3, _), (5, _), (12, _), (55, _)] ⟨rfl, rfl, rfl, rfl, rfl, trivial⟩ ?_))
   refine vc_ifs rfl ?_ ?_
   ·
    intro hc55
    try simp only [dn] at hc55
    refine vc_seq (vc_seq (vc_region ?_))
    refine vc_y rfl rfl ((by exact y_faz (k := 1) rfl underlying63 rfl rfl sizeOf60 rfl)) ?_
    refine vc_y rfl rfl ((by exact y_ld st 1 rfl isAgg60 rfl rfl)) ?_
    refine vc_y rfl rfl (y_nei rfl rfl) ?_
    refine vc_e (e_mvb rfl rfl rfl ?_ ?_)
    ·
     intro hg60
     try simp only [dn] at hg60
     refine vc_y rfl rfl ((by exact y_faz (k := 1) rfl underlying63 rfl rfl sizeOf60 rfl)) ?_
     refine vc_y rfl rfl ((by exact y_ld st 1 rfl isAgg60 rfl rfl)) ?_
     refine vc_y rfl rfl (y_nei rfl rfl) ?_
     refine vc_y rfl rfl (y_pickt rfl rfl) ?_
     refine vc_e (e_mvb rfl rfl rfl ?_ ?_)
     ·
      intro hg65
      try simp only [dn] at hg65
      iterate 4 refine vc_e (e_skip rfl rfl ?_)
      refine vc_y rfl rfl (y_pickt rfl rfl) ?_
      refine vc_y rfl rfl (y_mv rfl) ?_
      iterate 3 refine vc_e (e_skip rfl rfl ?_)
      refine vc_y rfl rfl (y_pickt rfl rfl) ?_
      refine vc_y rfl rfl (y_mv rfl) ?_
      iterate 3 refine vc_e (e_skip rfl rfl ?_)
      refine vc_y rfl rfl (y_pickt rfl rfl) ?_
      refine vc_y rfl rfl (y_mv rfl) ?_
      iterate 2 refine vc_e (e_skip rfl rfl ?_)
      refine vc_y rfl rfl (y_pickt rfl rfl) ?_
      refine vc_end (vq_then (vc_keep [(2, _), (3, _), (84, _)] ⟨rfl, rfl, rfl, trivial⟩ ?_))
      refine vc_ift rfl ?_
      refine vc_seq (vc_region ?_)
      refine vc_y rfl rfl (y_as rfl) ?_
      refine vc_end (vq_then (vc_keep [(4, _)] ⟨rfl, trivial⟩ (vc_ret (vq_then_ret (vq_block_ret (vq_then_ret ?_))))))
      refine vq_ret1 st (.inl rfl) results63 (.tmp rfl) ?_
      refine ⟨_, rfl, ?_⟩
      refine ⟨?_, st.chg⟩
      show Value.bool _ = Value.bool _
      congr 1
      clear st
      symm
      first
       | (rw [rightE_1 (e := e) (by assumption) hd]; clear hV hr hs ih; rw [Bool.eq_iff_iff]; simp_all <;> omega)
       | (rw [rightE_2 (e := e) (by assumption) hd]; clear hV hr hs ih; rw [Bool.eq_iff_iff]; simp_all <;> omega)
       | exact rightE_0 (e := e) (by assumption) (by assumption) (by assumption) (by assumption)
       | exact rightE_3n (e := e) (by assumption) (by exact .inr (.inl (by simp [oneOp]; omega)))
       | exact rightE_3d (e := e) (by assumption) (by omega)
       | exact rightE_4n (e := e) (by assumption) (by first | exact .inl (by omega) | exact .inr (.inr (.inl (by assumption))) | exact .inr (.inr (.inr (by assumption))) | exact .inr (.inl (by assumption)))
       | (rw [rightE_3 (e := e) (by assumption) hd (one_form (by omega) hx), op_one.2 (by omega)]; first | rw [if_pos (by assumption)] | rw [if_neg (by assumption)]
          first | (rw [rightE_big (e := x) (by omega)]; simp) | (clear hV hr hs ih hg hc0 hV0 hr0; simp_all))
       | (rw [rightE_4 (e := e) (by assumption) hd (two_form hk2 hx hy)]
          clear hV hr hs ih hg hc0 hc1 hV0 hV1 hr0 hr1
          first | rw [inn_f (x := x) (by assumption)] | rw [inn_n (x := x) (by assumption)]
          first | rw [inn_t (x := y) (by assumption)] | rw [inn_n (x := y) (by assumption)] | skip
          simp_all)
     ·
      intro hg65
      try simp only [dn] at hg65
      refine vc_y rfl rfl ((by exact y_faz (k := 4) rfl underlying63 rfl rfl sizeOf61 rfl)) ?_
      refine vc_y rfl rfl ((by exact y_ld st 1 rfl isAgg61 rfl rfl)) ?_
      refine vc_y rfl rfl (y_lensl rfl underlying61) ?_
      refine vc_y rfl rfl (y_nei rfl rfl) ?_
      refine vc_y rfl rfl (y_pickf rfl rfl) ?_
      refine vc_e (e_mvb rfl rfl rfl ?_ ?_)
      ·
       intro hg71
       try simp only [dn] at hg71
       iterate 3 refine vc_e (e_skip rfl rfl ?_)
       refine vc_y rfl rfl (y_pickt rfl rfl) ?_
       refine vc_y rfl rfl (y_mv rfl) ?_
       iterate 3 refine vc_e (e_skip rfl rfl ?_)
       refine vc_y rfl rfl (y_pickt rfl rfl) ?_
       refine vc_y rfl rfl (y_mv rfl) ?_
       iterate 2 refine vc_e (e_skip rfl rfl ?_)
       refine vc_y rfl rfl (y_pickt rfl rfl) ?_
       refine vc_end (vq_then (vc_keep [(2, _), (3, _), (84, _)] ⟨rfl, rfl, rfl, trivial⟩ ?_))
       refine vc_ift rfl ?_
       refine vc_seq (vc_region ?_)
       refine vc_y rfl rfl (y_as rfl) ?_
       refine vc_end (vq_then (vc_keep [(4, _)] ⟨rfl, trivial⟩ (vc_ret (vq_then_ret (vq_block_ret (vq_then_ret ?_))))))
       refine vq_ret1 st (.inl rfl) results63 (.tmp rfl) ?_
       refine ⟨_, rfl, ?_⟩
       refine ⟨?_, st.chg⟩
       show Value.bool _ = Value.bool _
       congr 1
       clear st
       symm
       first
        | (rw [rightE_1 (e := e) (by assumption) hd]; clear hV hr hs ih; rw [Bool.eq_iff_iff]; simp_all <;> omega)
        | (rw [rightE_2 (e := e) (by assumption) hd]; clear hV hr hs ih; rw [Bool.eq_iff_iff]; simp_all <;> omega)
        | exact rightE_0 (e := e) (by assumption) (by assumption) (by assumption) (by assumption)
        | exact rightE_3n (e := e) (by assumption) (by exact .inl (by omega))
        | exact rightE_3d (e := e) (by assumption) (by omega)
        | exact rightE_4n (e := e) (by assumption) (by first | exact .inl (by omega) | exact .inr (.inr (.inl (by assumption))) | exact .inr (.inr (.inr (by assumption))) | exact .inr (.inl (by assumption)))
        | (rw [rightE_3 (e := e) (by assumption) hd (one_form (by omega) hx), op_one.2 (by omega)]; first | rw [if_pos (by assumption)] | rw [if_neg (by assumption)]
           first | (rw [rightE_big (e := x) (by omega)]; simp) | (clear hV hr hs ih hg hc0 hV0 hr0; simp_all))
        | (rw [rightE_4 (e := e) (by assumption) hd (two_form hk2 hx hy)]
           clear hV hr hs ih hg hc0 hc1 hV0 hV1 hr0 hr1
           first | rw [inn_f (x := x) (by assumption)] | rw [inn_n (x := x) (by assumption)]
           first | rw [inn_t (x := y) (by assumption)] | rw [inn_n (x := y) (by assumption)] | skip
           simp_all)
      ·
       intro hg71
       try simp only [dn] at hg71
       refine vc_y rfl rfl ((by exact y_faz (k := 2) rfl underlying63 rfl rfl sizeOf2 rfl)) ?_
       refine vc_y rfl rfl ((by exact y_ld st 1 rfl isAgg2 rfl rfl)) ?_
       refine vc_y rfl rfl (y_nei rfl rfl) ?_
       refine vc_y rfl rfl (y_pickf rfl rfl) ?_
       refine vc_e (e_mvb rfl rfl rfl ?_ ?_)
       ·
        intro hg76
        try simp only [dn] at hg76
        iterate 3 refine vc_e (e_skip rfl rfl ?_)
        refine vc_y rfl rfl (y_pickt rfl rfl) ?_
        refine vc_y rfl rfl (y_mv rfl) ?_
        iterate 2 refine vc_e (e_skip rfl rfl ?_)
        refine vc_y rfl rfl (y_pickt rfl rfl) ?_
        refine vc_end (vq_then (vc_keep [(2, _), (3, _), (84, _)] ⟨rfl, rfl, rfl, trivial⟩ ?_))
        refine vc_ift rfl ?_
        refine vc_seq (vc_region ?_)
        refine vc_y rfl rfl (y_as rfl) ?_
        refine vc_end (vq_then (vc_keep [(4, _)] ⟨rfl, trivial⟩ (vc_ret (vq_then_ret (vq_block_ret (vq_then_ret ?_))))))
        refine vq_ret1 st (.inl rfl) results63 (.tmp rfl) ?_
        refine ⟨_, rfl, ?_⟩
        refine ⟨?_, st.chg⟩
        show Value.bool _ = Value.bool _
        congr 1
        clear st
        symm
        first
         | (rw [rightE_1 (e := e) (by assumption) hd]; clear hV hr hs ih; rw [Bool.eq_iff_iff]; simp_all <;> omega)
         | (rw [rightE_2 (e := e) (by assumption) hd]; clear hV hr hs ih; rw [Bool.eq_iff_iff]; simp_all <;> omega)
         | exact rightE_0 (e := e) (by assumption) (by assumption) (by assumption) (by assumption)
         | exact rightE_3n (e := e) (by assumption) (by exact .inr (.inr (.inl (by assumption))))
         | exact rightE_3d (e := e) (by assumption) (by omega)
         | exact rightE_4n (e := e) (by assumption) (by first | exact .inl (by omega) | exact .inr (.inr (.inl (by assumption))) | exact .inr (.inr (.inr (by assumption))) | exact .inr (.inl (by assumption)))
         | (rw [rightE_3 (e := e) (by assumption) hd (one_form (by omega) hx), op_one.2 (by omega)]; first | rw [if_pos (by assumption)] | rw [if_neg (by assumption)]
            first | (rw [rightE_big (e := x) (by omega)]; simp) | (clear hV hr hs ih hg hc0 hV0 hr0; simp_all))
         | (rw [rightE_4 (e := e) (by assumption) hd (two_form hk2 hx hy)]
            clear hV hr hs ih hg hc0 hc1 hV0 hV1 hr0 hr1
            first | rw [inn_f (x := x) (by assumption)] | rw [inn_n (x := x) (by assumption)]
            first | rw [inn_t (x := y) (by assumption)] | rw [inn_n (x := y) (by assumption)] | skip
            simp_all)
       ·
        intro hg76
        try simp only [dn] at hg76
        refine vc_y rfl rfl ((by exact y_faz (k := 3) rfl underlying63 rfl rfl sizeOf9 rfl)) ?_
        refine vc_y rfl rfl ((by exact y_ld st 1 rfl isAgg9 rfl rfl)) ?_
        refine vc_y rfl rfl (y_nes rfl rfl) ?_
        refine vc_y rfl rfl (y_pickf rfl rfl) ?_
        refine vc_e (e_mvb rfl rfl rfl ?_ ?_)
        ·
         intro hg81
         try simp only [dn] at hg81
         iterate 2 refine vc_e (e_skip rfl rfl ?_)
         refine vc_y rfl rfl (y_pickt rfl rfl) ?_
         refine vc_end (vq_then (vc_keep [(2, _), (3, _), (84, _)] ⟨rfl, rfl, rfl, trivial⟩ ?_))
         refine vc_ift rfl ?_
         refine vc_seq (vc_region ?_)
         refine vc_y rfl rfl (y_as rfl) ?_
         refine vc_end (vq_then (vc_keep [(4, _)] ⟨rfl, trivial⟩ (vc_ret (vq_then_ret (vq_block_ret (vq_then_ret ?_))))))
         refine vq_ret1 st (.inl rfl) results63 (.tmp rfl) ?_
         refine ⟨_, rfl, ?_⟩
         refine ⟨?_, st.chg⟩
         show Value.bool _ = Value.bool _
         congr 1
         clear st
         symm
         first
          | (rw [rightE_1 (e := e) (by assumption) hd]; clear hV hr hs ih; rw [Bool.eq_iff_iff]; simp_all <;> omega)
          | (rw [rightE_2 (e := e) (by assumption) hd]; clear hV hr hs ih; rw [Bool.eq_iff_iff]; simp_all <;> omega)
          | exact rightE_0 (e := e) (by assumption) (by assumption) (by assumption) (by assumption)
          | exact rightE_3n (e := e) (by assumption) (by exact .inr (.inr (.inr (by assumption))))
          | exact rightE_3d (e := e) (by assumption) (by omega)
          | exact rightE_4n (e := e) (by assumption) (by first | exact .inl (by omega) | exact .inr (.inr (.inl (by assumption))) | exact .inr (.inr (.inr (by assumption))) | exact .inr (.inl (by assumption)))
          | (rw [rightE_3 (e := e) (by assumption) hd (one_form (by omega) hx), op_one.2 (by omega)]; first | rw [if_pos (by assumption)] | rw [if_neg (by assumption)]
             first | (rw [rightE_big (e := x) (by omega)]; simp) | (clear hV hr hs ih hg hc0 hV0 hr0; simp_all))
          | (rw [rightE_4 (e := e) (by assumption) hd (two_form hk2 hx hy)]
             clear hV hr hs ih hg hc0 hc1 hV0 hV1 hr0 hr1
             first | rw [inn_f (x := x) (by assumption)] | rw [inn_n (x := x) (by assumption)]
             first | rw [inn_t (x := y) (by assumption)] | rw [inn_n (x := y) (by assumption)] | skip
             simp_all)
        ·
         intro hg81
         try simp only [dn] at hg81
         refine vc_y rfl rfl ((by exact y_ld st 0 rfl isAgg3 rfl rfl)) ?_
         refine vc_y rfl rfl (y_geq rfl rfl) ?_
         refine vc_y rfl rfl (y_pickf rfl rfl) ?_
         refine vc_end (vq_then (vc_keep [(2, _), (3, _), (84, _)] ⟨rfl, rfl, rfl, trivial⟩ ?_))
         refine vc_ifs rfl ?_ ?_
         ·
          intro hc84
          try simp only [dn] at hc84
          refine vc_seq (vc_region ?_)
          refine vc_y rfl rfl (y_as rfl) ?_
          refine vc_end (vq_then (vc_keep [(4, _)] ⟨rfl, trivial⟩ (vc_ret (vq_then_ret (vq_block_ret (vq_then_ret ?_))))))
          refine vq_ret1 st (.inl rfl) results63 (.tmp rfl) ?_
          refine ⟨_, rfl, ?_⟩
          refine ⟨?_, st.chg⟩
          show Value.bool _ = Value.bool _
          congr 1
          clear st
          symm
          first
           | (rw [rightE_1 (e := e) (by assumption) hd]; clear hV hr hs ih; rw [Bool.eq_iff_iff]; simp_all <;> omega)
           | (rw [rightE_2 (e := e) (by assumption) hd]; clear hV hr hs ih; rw [Bool.eq_iff_iff]; simp_all <;> omega)
           | exact rightE_0 (e := e) (by assumption) (by assumption) (by assumption) (by assumption)
           | exact rightE_3n (e := e) (by assumption) (by first | exact .inl (by omega) | exact .inr (.inr (.inl (by assumption))) | exact .inr (.inr (.inr (by assumption))) | exact .inr (.inl (by simp [oneOp]; omega)))
           | exact rightE_3d (e := e) (by assumption) (by omega)
           | exact rightE_4n (e := e) (by assumption) (by first | exact .inl (by omega) | exact .inr (.inr (.inl (by assumption))) | exact .inr (.inr (.inr (by assumption))) | exact .inr (.inl (by assumption)))
           | (rw [rightE_3 (e := e) (by assumption) hd (one_form (by omega) hx), op_one.2 (by omega)]; first | rw [if_pos (by assumption)] | rw [if_neg (by assumption)]
              first | (rw [rightE_big (e := x) (by omega)]; simp) | (clear hV hr hs ih hg hc0 hV0 hr0; simp_all))
           | (rw [rightE_4 (e := e) (by assumption) hd (two_form hk2 hx hy)]
              clear hV hr hs ih hg hc0 hc1 hV0 hV1 hr0 hr1
              first | rw [inn_f (x := x) (by assumption)] | rw [inn_n (x := x) (by assumption)]
              first | rw [inn_t (x := y) (by assumption)] | rw [inn_n (x := y) (by assumption)] | skip
              simp_all)
         ·
          intro hc84
          try simp only [dn] at hc84
          obtain ⟨x, hx⟩ := get0 (l := e.kids) (n := e.kids.length) rfl (by omega)
          obtain ⟨gb, go, rfl, hgS, hgl, hg⟩ := ExRow.at hr (by omega)
          obtain ⟨o0, c0, hV0, hr0, hc0⟩ := hg 0 x hx
          refine vc_code_skip (vq_then (vc_keep [(2, _), (3, _)] ⟨rfl, rfl, trivial⟩ (vc_seq (vc_region ?_))))
          refine vc_y rfl rfl ((by exact y_faz (k := 4) rfl underlying63 rfl rfl sizeOf61 rfl)) ?_
          refine vc_y rfl rfl ((by exact y_ld st 1 rfl isAgg61 rfl rfl)) ?_
          refine vc_y rfl rfl ((by exact y_ia (k := 0) rfl rfl underlying61 sizeOf63 rfl (by omega))) ?_
          refine vc_y rfl rfl ((by exact y_ldca (exL x o0 c0) rfl isAgg63 sizeOf63 rfl (fun i v hi => st.chg.cell (hc0 i v hi) (by simp)))) ?_
          refine vc_e (e_al (l := [_, _, _, _, _, _]) st rfl rfl zeroValue63 rfl ?_)
          intro b6 w hb6 st
          refine vc_e (e_sts (vs := [_, _, _, _, _, _]) st 0 rfl rfl rfl rfl rfl sizeOf63 rfl rfl (by first | (right; assumption) | (left; simp)) ?_)
          intro w st; dsimp only [setNth, wr] at st
          refine vc_end (vq_then (vc_keep [(3, _), (6, _)] ⟨rfl, rfl, trivial⟩ (vc_seq (vc_seq (vc_region ?_)))))
          refine vc_y rfl rfl (y_fa0 rfl underlying63 rfl rfl sizeOf59 rfl) ?_
          refine vc_y rfl rfl ((by exact y_ld st 0 rfl isAgg59 rfl rfl)) ?_
          refine vc_y rfl rfl (y_eqi rfl rfl) ?_
          refine vc_end (vq_then (vc_keep [(3, _), (6, _), (91, _)] ⟨rfl, rfl, rfl, trivial⟩ ?_))
          refine vc_ifs rfl ?_ ?_
          ·
           intro hc91
           try simp only [dn] at hc91
           refine vc_seq (vc_region ?_)
           refine vc_y rfl rfl ((by exact y_ld st 1 rfl isAgg3 rfl rfl)) ?_
           refine vc_y rfl rfl (y_add rfl rfl (by omega : _ = ((d + 1 : Nat) : Int)) (by omega) (by omega)) ?_
           refine vc_y rfl rfl (y_lss rfl rfl) ?_
           refine vc_e (e_mvb rfl rfl rfl ?_ ?_)
           ·
            intro hg95
            try simp only [dn] at hg95
            refine vc_y rfl rfl ((by exact y_lda (vs := [_, _, _, _, _, _]) st 0 rfl isAgg63 sizeOf63 rfl rfl)) ?_
            refine vc_y rfl rfl ((by exact y_ld st 1 rfl isAgg3 rfl rfl)) ?_
            refine vc_y rfl rfl (y_add rfl rfl (by omega : _ = ((d + 2 : Nat) : Int)) (by omega) (by omega)) ?_
            refine vc_e (e_call [_, _] rfl rfl call63 rfl (ih (szo x) (by have := mem_size hx; have := szo_kids e; omega) x rfl (d + 2) (by omega) _ _ (hV0.kept (Same.of_nil st.chg)) (hs.kept st.chg)) ?_)
            rintro _ w ⟨rfl, cw⟩
            replace st := st.call0 cw
            refine vc_y rfl rfl (y_pickt rfl rfl) ?_
            refine vc_y rfl rfl (y_as rfl) ?_
            refine vc_end (vq_then (vc_keep [(4, _)] ⟨rfl, trivial⟩ (vc_ret (vq_then_ret (vq_block_ret (vq_then_ret ?_))))))
            refine vq_ret1 st (.inl rfl) results63 (.tmp rfl) ?_
            refine ⟨_, rfl, ?_⟩
            refine ⟨?_, st.chg⟩
            show Value.bool _ = Value.bool _
            congr 1
            clear st
            symm
            first
             | (rw [rightE_1 (e := e) (by assumption) hd]; clear hV hr hs ih; rw [Bool.eq_iff_iff]; simp_all <;> omega)
             | (rw [rightE_2 (e := e) (by assumption) hd]; clear hV hr hs ih; rw [Bool.eq_iff_iff]; simp_all <;> omega)
             | exact rightE_0 (e := e) (by assumption) (by assumption) (by assumption) (by assumption)
             | exact rightE_3n (e := e) (by assumption) (by first | exact .inl (by omega) | exact .inr (.inr (.inl (by assumption))) | exact .inr (.inr (.inr (by assumption))) | exact .inr (.inl (by simp [oneOp]; omega)))
             | exact rightE_3d (e := e) (by assumption) (by omega)
             | exact rightE_4n (e := e) (by assumption) (by first | exact .inl (by omega) | exact .inr (.inr (.inl (by assumption))) | exact .inr (.inr (.inr (by assumption))) | exact .inr (.inl (by assumption)))
             | (rw [rightE_3 (e := e) (by assumption) hd (one_form (by omega) hx), op_one.2 (by omega)]; first | rw [if_pos (by assumption)] | rw [if_neg (by assumption)]
                first | (rw [rightE_big (e := x) (by omega)]; simp) | (clear hV hr hs ih hg hc0 hV0 hr0; simp_all))
             | (rw [rightE_4 (e := e) (by assumption) hd (two_form hk2 hx hy)]
                clear hV hr hs ih hg hc0 hc1 hV0 hV1 hr0 hr1
                first | rw [inn_f (x := x) (by assumption)] | rw [inn_n (x := x) (by assumption)]
                first | rw [inn_t (x := y) (by assumption)] | rw [inn_n (x := y) (by assumption)] | skip
                simp_all)
           ·
            intro hg95
            try simp only [dn] at hg95
            iterate 4 refine vc_e (e_skip rfl rfl ?_)
            refine vc_y rfl rfl (y_pickf rfl rfl) ?_
            refine vc_y rfl rfl (y_as rfl) ?_
            refine vc_end (vq_then (vc_keep [(4, _)] ⟨rfl, trivial⟩ (vc_ret (vq_then_ret (vq_block_ret (vq_then_ret ?_))))))
            refine vq_ret1 st (.inl rfl) results63 (.tmp rfl) ?_
            refine ⟨_, rfl, ?_⟩
            refine ⟨?_, st.chg⟩
            show Value.bool _ = Value.bool _
            congr 1
            clear st
            symm
            first
             | (rw [rightE_1 (e := e) (by assumption) hd]; clear hV hr hs ih; rw [Bool.eq_iff_iff]; simp_all <;> omega)
             | (rw [rightE_2 (e := e) (by assumption) hd]; clear hV hr hs ih; rw [Bool.eq_iff_iff]; simp_all <;> omega)
             | exact rightE_0 (e := e) (by assumption) (by assumption) (by assumption) (by assumption)
             | exact rightE_3n (e := e) (by assumption) (by first | exact .inl (by omega) | exact .inr (.inr (.inl (by assumption))) | exact .inr (.inr (.inr (by assumption))) | exact .inr (.inl (by simp [oneOp]; omega)))
             | exact rightE_3d (e := e) (by assumption) (by omega)
             | exact rightE_4n (e := e) (by assumption) (by first | exact .inl (by omega) | exact .inr (.inr (.inl (by assumption))) | exact .inr (.inr (.inr (by assumption))) | exact .inr (.inl (by assumption)))
             | (rw [rightE_3 (e := e) (by assumption) hd (one_form (by omega) hx), op_one.2 (by omega)]; first | rw [if_pos (by assumption)] | rw [if_neg (by assumption)]
                first | (rw [rightE_big (e := x) (by omega)]; simp) | (clear hV hr hs ih hg hc0 hV0 hr0; simp_all))
             | (rw [rightE_4 (e := e) (by assumption) hd (two_form hk2 hx hy)]
                clear hV hr hs ih hg hc0 hc1 hV0 hV1 hr0 hr1
                first | rw [inn_f (x := x) (by assumption)] | rw [inn_n (x := x) (by assumption)]
                first | rw [inn_t (x := y) (by assumption)] | rw [inn_n (x := y) (by assumption)] | skip
                simp_all)
          ·
           intro hc91
           try simp only [dn] at hc91
           refine vc_code_skip (vq_then (vc_keep [(3, _), (6, _)] ⟨rfl, rfl, trivial⟩ (vc_seq (vc_region ?_))))
           refine vc_y rfl rfl ((by exact y_lda (vs := [_, _, _, _, _, _]) st 0 rfl isAgg63 sizeOf63 rfl rfl)) ?_
           refine vc_y rfl rfl ((by exact y_ld st 1 rfl isAgg3 rfl rfl)) ?_
           refine vc_y rfl rfl (y_add rfl rfl (by omega : _ = ((d + 1 : Nat) : Int)) (by omega) (by omega)) ?_
           refine vc_e (e_call [_, _] rfl rfl call63 rfl (ih (szo x) (by have := mem_size hx; have := szo_kids e; omega) x rfl (d + 1) (by omega) _ _ (hV0.kept (Same.of_nil st.chg)) (hs.kept st.chg)) ?_)
           rintro _ w ⟨rfl, cw⟩
           replace st := st.call0 cw
           refine vc_y rfl rfl (y_as rfl) ?_
           refine vc_end (vq_then (vc_keep [(4, _)] ⟨rfl, trivial⟩ (vc_ret (vq_block_ret (vq_then_ret ?_)))))
           refine vq_ret1 st (.inl rfl) results63 (.tmp rfl) ?_
           refine ⟨_, rfl, ?_⟩
           refine ⟨?_, st.chg⟩
           show Value.bool _ = Value.bool _
           congr 1
           clear st
           symm
           first
            | (rw [rightE_1 (e := e) (by assumption) hd]; clear hV hr hs ih; rw [Bool.eq_iff_iff]; simp_all <;> omega)
            | (rw [rightE_2 (e := e) (by assumption) hd]; clear hV hr hs ih; rw [Bool.eq_iff_iff]; simp_all <;> omega)
            | exact rightE_0 (e := e) (by assumption) (by assumption) (by assumption) (by assumption)
            | exact rightE_3n (e := e) (by assumption) (by first | exact .inl (by omega) | exact .inr (.inr (.inl (by assumption))) | exact .inr (.inr (.inr (by assumption))) | exact .inr (.inl (by simp [oneOp]; omega)))
            | exact rightE_3d (e := e) (by assumption) (by omega)
            | exact rightE_4n (e := e) (by assumption) (by first | exact .inl (by omega) | exact .inr (.inr (.inl (by assumption))) | exact .inr (.inr (.inr (by assumption))) | exact .inr (.inl (by assumption)))
            | (rw [rightE_3 (e := e) (by assumption) hd (one_form (by omega) hx), op_one.2 (by omega)]; first | rw [if_pos (by assumption)] | rw [if_neg (by assumption)]
               first | (rw [rightE_big (e := x) (by omega)]; simp) | (clear hV hr hs ih hg hc0 hV0 hr0; simp_all))
            | (rw [rightE_4 (e := e) (by assumption) hd (two_form hk2 hx hy)]
               clear hV hr hs ih hg hc0 hc1 hV0 hV1 hr0 hr1
               first | rw [inn_f (x := x) (by assumption)] | rw [inn_n (x := x) (by assumption)]
               first | rw [inn_t (x := y) (by assumption)] | rw [inn_n (x := y) (by assumption)] | skip
               simp_all)
    ·
     intro hg60
     try simp only [dn] at hg60
     iterate 3 refine vc_e (e_skip rfl rfl ?_)
     refine vc_y rfl rfl (y_pickf rfl rfl) ?_
     refine vc_y rfl rfl (y_mv rfl) ?_
     refine vc_y rfl rfl ((by exact y_faz (k := 4) rfl underlying63 rfl rfl sizeOf61 rfl)) ?_
     refine vc_y rfl rfl ((by exact y_ld st 1 rfl isAgg61 rfl rfl)) ?_
     refine vc_y rfl rfl (y_lensl rfl underlying61) ?_
     refine vc_y rfl rfl (y_nei rfl rfl) ?_
     refine vc_y rfl rfl (y_pickf rfl rfl) ?_
     refine vc_e (e_mvb rfl rfl rfl ?_ ?_)
     ·
      intro hg71
      try simp only [dn] at hg71
      iterate 3 refine vc_e (e_skip rfl rfl ?_)
      refine vc_y rfl rfl (y_pickt rfl rfl) ?_
      refine vc_y rfl rfl (y_mv rfl) ?_
      iterate 3 refine vc_e (e_skip rfl rfl ?_)
      refine vc_y rfl rfl (y_pickt rfl rfl) ?_
      refine vc_y rfl rfl (y_mv rfl) ?_
      iterate 2 refine vc_e (e_skip rfl rfl ?_)
      refine vc_y rfl rfl (y_pickt rfl rfl) ?_
      refine vc_end (vq_then (vc_keep [(2, _), (3, _), (84, _)] ⟨rfl, rfl, rfl, trivial⟩ ?_))
      refine vc_ift rfl ?_
      refine vc_seq (vc_region ?_)
      refine vc_y rfl rfl (y_as rfl) ?_
      refine vc_end (vq_then (vc_keep [(4, _)] ⟨rfl, trivial⟩ (vc_ret (vq_then_ret (vq_block_ret (vq_then_ret ?_))))))
      refine vq_ret1 st (.inl rfl) results63 (.tmp rfl) ?_
      refine ⟨_, rfl, ?_⟩
      refine ⟨?_, st.chg⟩
      show Value.bool _ = Value.bool _
      congr 1
      clear st
      symm
      first
       | (rw [rightE_1 (e := e) (by assumption) hd]; clear hV hr hs ih; rw [Bool.eq_iff_iff]; simp_all <;> omega)
       | (rw [rightE_2 (e := e) (by assumption) hd]; clear hV hr hs ih; rw [Bool.eq_iff_iff]; simp_all <;> omega)
       | exact rightE_0 (e := e) (by assumption) (by assumption) (by assumption) (by assumption)
       | exact rightE_3n (e := e) (by assumption) (by exact .inl (by omega))
       | exact rightE_3d (e := e) (by assumption) (by omega)
       | exact rightE_4n (e := e) (by assumption) (by first | exact .inl (by omega) | exact .inr (.inr (.inl (by assumption))) | exact .inr (.inr (.inr (by assumption))) | exact .inr (.inl (by assumption)))
       | (rw [rightE_3 (e := e) (by assumption) hd (one_form (by omega) hx), op_one.2 (by omega)]; first | rw [if_pos (by assumption)] | rw [if_neg (by assumption)]
          first | (rw [rightE_big (e := x) (by omega)]; simp) | (clear hV hr hs ih hg hc0 hV0 hr0; simp_all))
       | (rw [rightE_4 (e := e) (by assumption) hd (two_form hk2 hx hy)]
          clear hV hr hs ih hg hc0 hc1 hV0 hV1 hr0 hr1
          first | rw [inn_f (x := x) (by assumption)] | rw [inn_n (x := x) (by assumption)]
          first | rw [inn_t (x := y) (by assumption)] | rw [inn_n (x := y) (by assumption)] | skip
          simp_all)
     ·
      intro hg71
      try simp only [dn] at hg71
      refine vc_y rfl rfl ((by exact y_faz (k := 2) rfl underlying63 rfl rfl sizeOf2 rfl)) ?_
      refine vc_y rfl rfl ((by exact y_ld st 1 rfl isAgg2 rfl rfl)) ?_
      refine vc_y rfl rfl (y_nei rfl rfl) ?_
      refine vc_y rfl rfl (y_pickf rfl rfl) ?_
      refine vc_e (e_mvb rfl rfl rfl ?_ ?_)
      ·
       intro hg76
       try simp only [dn] at hg76
       iterate 3 refine vc_e (e_skip rfl rfl ?_)
       refine vc_y rfl rfl (y_pickt rfl rfl) ?_
       refine vc_y rfl rfl (y_mv rfl) ?_
       iterate 2 refine vc_e (e_skip rfl rfl ?_)
       refine vc_y rfl rfl (y_pickt rfl rfl) ?_
       refine vc_end (vq_then (vc_keep [(2, _), (3, _), (84, _)] ⟨rfl, rfl, rfl, trivial⟩ ?_))
       refine vc_ift rfl ?_
       refine vc_seq (vc_region ?_)
       refine vc_y rfl rfl (y_as rfl) ?_
       refine vc_end (vq_then (vc_keep [(4, _)] ⟨rfl, trivial⟩ (vc_ret (vq_then_ret (vq_block_ret (vq_then_ret ?_))))))
       refine vq_ret1 st (.inl rfl) results63 (.tmp rfl) ?_
       refine ⟨_, rfl, ?_⟩
       refine ⟨?_, st.chg⟩
       show Value.bool _ = Value.bool _
       congr 1
       clear st
       symm
       first
        | (rw [rightE_1 (e := e) (by assumption) hd]; clear hV hr hs ih; rw [Bool.eq_iff_iff]; simp_all <;> omega)
        | (rw [rightE_2 (e := e) (by assumption) hd]; clear hV hr hs ih; rw [Bool.eq_iff_iff]; simp_all <;> omega)
        | exact rightE_0 (e := e) (by assumption) (by assumption) (by assumption) (by assumption)
        | exact rightE_3n (e := e) (by assumption) (by exact .inr (.inr (.inl (by assumption))))
        | exact rightE_3d (e := e) (by assumption) (by omega)
        | exact rightE_4n (e := e) (by assumption) (by first | exact .inl (by omega) | exact .inr (.inr (.inl (by assumption))) | exact .inr (.inr (.inr (by assumption))) | exact .inr (.inl (by assumption)))
        | (rw [rightE_3 (e := e) (by assumption) hd (one_form (by omega) hx), op_one.2 (by omega)]; first | rw [if_pos (by assumption)] | rw [if_neg (by assumption)]
           first | (rw [rightE_big (e := x) (by omega)]; simp) | (clear hV hr hs ih hg hc0 hV0 hr0; simp_all))
        | (rw [rightE_4 (e := e) (by assumption) hd (two_form hk2 hx hy)]
           clear hV hr hs ih hg hc0 hc1 hV0 hV1 hr0 hr1
           first | rw [inn_f (x := x) (by assumption)] | rw [inn_n (x := x) (by assumption)]
           first | rw [inn_t (x := y) (by assumption)] | rw [inn_n (x := y) (by assumption)] | skip
           simp_all)
      ·
       intro hg76
       try simp only [dn] at hg76
       refine vc_y rfl rfl ((by exact y_faz (k := 3) rfl underlying63 rfl rfl sizeOf9 rfl)) ?_
       refine vc_y rfl rfl ((by exact y_ld st 1 rfl isAgg9 rfl rfl)) ?_
       refine vc_y rfl rfl (y_nes rfl rfl) ?_
       refine vc_y rfl rfl (y_pickf rfl rfl) ?_
       refine vc_e (e_mvb rfl rfl rfl ?_ ?_)
       ·
        intro hg81
        try simp only [dn] at hg81
        iterate 2 refine vc_e (e_skip rfl rfl ?_)
        refine vc_y rfl rfl (y_pickt rfl rfl) ?_
        refine vc_end (vq_then (vc_keep [(2, _), (3, _), (84, _)] ⟨rfl, rfl, rfl, trivial⟩ ?_))
        refine vc_ift rfl ?_
        refine vc_seq (vc_region ?_)
        refine vc_y rfl rfl (y_as rfl) ?_
        refine vc_end (vq_then (vc_keep [(4, _)] ⟨rfl, trivial⟩ (vc_ret (vq_then_ret (vq_block_ret (vq_then_ret ?_))))))
        refine vq_ret1 st (.inl rfl) results63 (.tmp rfl) ?_
        refine ⟨_, rfl, ?_⟩
        refine ⟨?_, st.chg⟩
        show Value.bool _ = Value.bool _
        congr 1
        clear st
        symm
        first
         | (rw [rightE_1 (e := e) (by assumption) hd]; clear hV hr hs ih; rw [Bool.eq_iff_iff]; simp_all <;> omega)
         | (rw [rightE_2 (e := e) (by assumption) hd]; clear hV hr hs ih; rw [Bool.eq_iff_iff]; simp_all <;> omega)
         | exact rightE_0 (e := e) (by assumption) (by assumption) (by assumption) (by assumption)
         | exact rightE_3n (e := e) (by assumption) (by exact .inr (.inr (.inr (by assumption))))
         | exact rightE_3d (e := e) (by assumption) (by omega)
         | exact rightE_4n (e := e) (by assumption) (by first | exact .inl (by omega) | exact .inr (.inr (.inl (by assumption))) | exact .inr (.inr (.inr (by assumption))) | exact .inr (.inl (by assumption)))
         | (rw [rightE_3 (e := e) (by assumption) hd (one_form (by omega) hx), op_one.2 (by omega)]; first | rw [if_pos (by assumption)] | rw [if_neg (by assumption)]
            first | (rw [rightE_big (e := x) (by omega)]; simp) | (clear hV hr hs ih hg hc0 hV0 hr0; simp_all))
         | (rw [rightE_4 (e := e) (by assumption) hd (two_form hk2 hx hy)]
            clear hV hr hs ih hg hc0 hc1 hV0 hV1 hr0 hr1
            first | rw [inn_f (x := x) (by assumption)] | rw [inn_n (x := x) (by assumption)]
            first | rw [inn_t (x := y) (by assumption)] | rw [inn_n (x := y) (by assumption)] | skip
            simp_all)
       ·
        intro hg81
        try simp only [dn] at hg81
        refine vc_y rfl rfl ((by exact y_ld st 0 rfl isAgg3 rfl rfl)) ?_
        refine vc_y rfl rfl (y_geq rfl rfl) ?_
        refine vc_y rfl rfl (y_pickf rfl rfl) ?_
        refine vc_end (vq_then (vc_keep [(2, _), (3, _), (84, _)] ⟨rfl, rfl, rfl, trivial⟩ ?_))
        refine vc_ifs rfl ?_ ?_
        ·
         intro hc84
         try simp only [dn] at hc84
         refine vc_seq (vc_region ?_)
         refine vc_y rfl rfl (y_as rfl) ?_
         refine vc_end (vq_then (vc_keep [(4, _)] ⟨rfl, trivial⟩ (vc_ret (vq_then_ret (vq_block_ret (vq_then_ret ?_))))))
         refine vq_ret1 st (.inl rfl) results63 (.tmp rfl) ?_
         refine ⟨_, rfl, ?_⟩
         refine ⟨?_, st.chg⟩
         show Value.bool _ = Value.bool _
         congr 1
         clear st
         symm
         first
          | (rw [rightE_1 (e := e) (by assumption) hd]; clear hV hr hs ih; rw [Bool.eq_iff_iff]; simp_all <;> omega)
          | (rw [rightE_2 (e := e) (by assumption) hd]; clear hV hr hs ih; rw [Bool.eq_iff_iff]; simp_all <;> omega)
          | exact rightE_0 (e := e) (by assumption) (by assumption) (by assumption) (by assumption)
          | exact rightE_3n (e := e) (by assumption) (by first | exact .inl (by omega) | exact .inr (.inr (.inl (by assumption))) | exact .inr (.inr (.inr (by assumption))) | exact .inr (.inl (by simp [oneOp]; omega)))
          | exact rightE_3d (e := e) (by assumption) (by omega)
          | exact rightE_4n (e := e) (by assumption) (by first | exact .inl (by omega) | exact .inr (.inr (.inl (by assumption))) | exact .inr (.inr (.inr (by assumption))) | exact .inr (.inl (by assumption)))
          | (rw [rightE_3 (e := e) (by assumption) hd (one_form (by omega) hx), op_one.2 (by omega)]; first | rw [if_pos (by assumption)] | rw [if_neg (by assumption)]
             first | (rw [rightE_big (e := x) (by omega)]; simp) | (clear hV hr hs ih hg hc0 hV0 hr0; simp_all))
          | (rw [rightE_4 (e := e) (by assumption) hd (two_form hk2 hx hy)]
             clear hV hr hs ih hg hc0 hc1 hV0 hV1 hr0 hr1
             first | rw [inn_f (x := x) (by assumption)] | rw [inn_n (x := x) (by assumption)]
             first | rw [inn_t (x := y) (by assumption)] | rw [inn_n (x := y) (by assumption)] | skip
             simp_all)
        ·
         intro hc84
         try simp only [dn] at hc84
         obtain ⟨x, hx⟩ := get0 (l := e.kids) (n := e.kids.length) rfl (by omega)
         obtain ⟨gb, go, rfl, hgS, hgl, hg⟩ := ExRow.at hr (by omega)
         obtain ⟨o0, c0, hV0, hr0, hc0⟩ := hg 0 x hx
         refine vc_code_skip (vq_then (vc_keep [(2, _), (3, _)] ⟨rfl, rfl, trivial⟩ (vc_seq (vc_region ?_))))
         refine vc_y rfl rfl ((by exact y_faz (k := 4) rfl underlying63 rfl rfl sizeOf61 rfl)) ?_
         refine vc_y rfl rfl ((by exact y_ld st 1 rfl isAgg61 rfl rfl)) ?_
         refine vc_y rfl rfl ((by exact y_ia (k := 0) rfl rfl underlying61 sizeOf63 rfl (by omega))) ?_
         refine vc_y rfl rfl ((by exact y_ldca (exL x o0 c0) rfl isAgg63 sizeOf63 rfl (fun i v hi => st.chg.cell (hc0 i v hi) (by simp)))) ?_
         refine vc_e (e_al (l := [_, _, _, _, _, _]) st rfl rfl zeroValue63 rfl ?_)
         intro b6 w hb6 st
         refine vc_e (e_sts (vs := [_, _, _, _, _, _]) st 0 rfl rfl rfl rfl rfl sizeOf63 rfl rfl (by first | (right; assumption) | (left; simp)) ?_)
         intro w st; dsimp only [setNth, wr] at st
         refine vc_end (vq_then (vc_keep [(3, _), (6, _)] ⟨rfl, rfl, trivial⟩ (vc_seq (vc_seq (vc_region ?_)))))
         refine vc_y rfl rfl (y_fa0 rfl underlying63 rfl rfl sizeOf59 rfl) ?_
         refine vc_y rfl rfl ((by exact y_ld st 0 rfl isAgg59 rfl rfl)) ?_
         refine vc_y rfl rfl (y_eqi rfl rfl) ?_
         refine vc_end (vq_then (vc_keep [(3, _), (6, _), (91, _)] ⟨rfl, rfl, rfl, trivial⟩ ?_))
         refine vc_ifs rfl ?_ ?_
         ·
          intro hc91
          try simp only [dn] at hc91
          refine vc_seq (vc_region ?_)
          refine vc_y rfl rfl ((by exact y_ld st 1 rfl isAgg3 rfl rfl)) ?_
          refine vc_y rfl rfl (y_add rfl rfl (by omega : _ = ((d + 1 : Nat) : Int)) (by omega) (by omega)) ?_
          refine vc_y rfl rfl (y_lss rfl rfl) ?_
          refine vc_e (e_mvb rfl rfl rfl ?_ ?_)
          ·
           intro hg95
           try simp only [dn] at hg95
           refine vc_y rfl rfl ((by exact y_lda (vs := [_, _, _, _, _, _]) st 0 rfl isAgg63 sizeOf63 rfl rfl)) ?_
           refine vc_y rfl rfl ((by exact y_ld st 1 rfl isAgg3 rfl rfl)) ?_
           refine vc_y rfl rfl (y_add rfl rfl (by omega : _ = ((d + 2 : Nat) : Int)) (by omega) (by omega)) ?_
           refine vc_e (e_call [_, _] rfl rfl call63 rfl (ih (szo x) (by have := mem_size hx; have := szo_kids e; omega) x rfl (d + 2) (by omega) _ _ (hV0.kept (Same.of_nil st.chg)) (hs.kept st.chg)) ?_)
           rintro _ w ⟨rfl, cw⟩
           replace st := st.call0 cw
           refine vc_y rfl rfl (y_pickt rfl rfl) ?_
           refine vc_y rfl rfl (y_as rfl) ?_
           refine vc_end (vq_then (vc_keep [(4, _)] ⟨rfl, trivial⟩ (vc_ret (vq_then_ret (vq_block_ret (vq_then_ret ?_))))))
           refine vq_ret1 st (.inl rfl) results63 (.tmp rfl) ?_
           refine ⟨_, rfl, ?_⟩
           refine ⟨?_, st.chg⟩
           show Value.bool _ = Value.bool _
           congr 1
           clear st
           symm
           first
            | (rw [rightE_1 (e := e) (by assumption) hd]; clear hV hr hs ih; rw [Bool.eq_iff_iff]; simp_all <;> omega)
            | (rw [rightE_2 (e := e) (by assumption) hd]; clear hV hr hs ih; rw [Bool.eq_iff_iff]; simp_all <;> omega)
            | exact rightE_0 (e := e) (by assumption) (by assumption) (by assumption) (by assumption)
            | exact rightE_3n (e := e) (by assumption) (by first | exact .inl (by omega) | exact .inr (.inr (.inl (by assumption))) | exact .inr (.inr (.inr (by assumption))) | exact .inr (.inl (by simp [oneOp]; omega)))
            | exact rightE_3d (e := e) (by assumption) (by omega)
            | exact rightE_4n (e := e) (by assumption) (by first | exact .inl (by omega) | exact .inr (.inr (.inl (by assumption))) | exact .inr (.inr (.inr (by assumption))) | exact .inr (.inl (by assumption)))
            | (rw [rightE_3 (e := e) (by assumption) hd (one_form (by omega) hx), op_one.2 (by omega)]; first | rw [if_pos (by assumption)] | rw [if_neg (by assumption)]
               first | (rw [rightE_big (e := x) (by omega)]; simp) | (clear hV hr hs ih hg hc0 hV0 hr0; simp_all))
            | (rw [rightE_4 (e := e) (by assumption) hd (two_form hk2 hx hy)]
               clear hV hr hs ih hg hc0 hc1 hV0 hV1 hr0 hr1
               first | rw [inn_f (x := x) (by assumption)] | rw [inn_n (x := x) (by assumption)]
               first | rw [inn_t (x := y) (by assumption)] | rw [inn_n (x := y) (by assumption)] | skip
               simp_all)
          ·
           intro hg95
           try simp only [dn] at hg95
           iterate 4 refine vc_e (e_skip rfl rfl ?_)
           refine vc_y rfl rfl (y_pickf rfl rfl) ?_
           refine vc_y rfl rfl (y_as rfl) ?_
           refine vc_end (vq_then (vc_keep [(4, _)] ⟨rfl, trivial⟩ (vc_ret (vq_then_ret (vq_block_ret (vq_then_ret ?_))))))
           refine vq_ret1 st (.inl rfl) results63 (.tmp rfl) ?_
           refine ⟨_, rfl, ?_⟩
           refine ⟨?_, st.chg⟩
           show Value.bool _ = Value.bool _
           congr 1
           clear st
           symm
           first
            | (rw [rightE_1 (e := e) (by assumption) hd]; clear hV hr hs ih; rw [Bool.eq_iff_iff]; simp_all <;> omega)
            | (rw [rightE_2 (e := e) (by assumption) hd]; clear hV hr hs ih; rw [Bool.eq_iff_iff]; simp_all <;> omega)
            | exact rightE_0 (e := e) (by assumption) (by assumption) (by assumption) (by assumption)
            | exact rightE_3n (e := e) (by assumption) (by first | exact .inl (by omega) | exact .inr (.inr (.inl (by assumption))) | exact .inr (.inr (.inr (by assumption))) | exact .inr (.inl (by simp [oneOp]; omega)))
            | exact rightE_3d (e := e) (by assumption) (by omega)
            | exact rightE_4n (e := e) (by assumption) (by first | exact .inl (by omega) | exact .inr (.inr (.inl (by assumption))) | exact .inr (.inr (.inr (by assumption))) | exact .inr (.inl (by assumption)))
            | (rw [rightE_3 (e := e) (by assumption) hd (one_form (by omega) hx), op_one.2 (by omega)]; first | rw [if_pos (by assumption)] | rw [if_neg (by assumption)]
               first | (rw [rightE_big (e := x) (by omega)]; simp) | (clear hV hr hs ih hg hc0 hV0 hr0; simp_all))
            | (rw [rightE_4 (e := e) (by assumption) hd (two_form hk2 hx hy)]
               clear hV hr hs ih hg hc0 hc1 hV0 hV1 hr0 hr1
               first | rw [inn_f (x := x) (by assumption)] | rw [inn_n (x := x) (by assumption)]
               first | rw [inn_t (x := y) (by assumption)] | rw [inn_n (x := y) (by assumption)] | skip
               simp_all)
         ·
          intro hc91
          try simp only [dn] at hc91
          refine vc_code_skip (vq_then (vc_keep [(3, _), (6, _)] ⟨rfl, rfl, trivial⟩ (vc_seq (vc_region ?_))))
          refine vc_y rfl rfl ((by exact y_lda (vs := [_, _, _, _, _, _]) st 0 rfl isAgg63 sizeOf63 rfl rfl)) ?_
          refine vc_y rfl rfl ((by exact y_ld st 1 rfl isAgg3 rfl rfl)) ?_
          refine vc_y rfl rfl (y_add rfl rfl (by omega : _ = ((d + 1 : Nat) : Int)) (by omega) (by omega)) ?_
          refine vc_e (e_call [_, _] rfl rfl call63 rfl (ih (szo x) (by have := mem_size hx; have := szo_kids e; omega) x rfl (d + 1) (by omega) _ _ (hV0.kept (Same.of_nil st.chg)) (hs.kept st.chg)) ?_)
          rintro _ w ⟨rfl, cw⟩
          replace st := st.call0 cw
          refine vc_y rfl rfl (y_as rfl) ?_
          refine vc_end (vq_then (vc_keep [(4, _)] ⟨rfl, trivial⟩ (vc_ret (vq_block_ret (vq_then_ret ?_)))))
          refine vq_ret1 st (.inl rfl) results63 (.tmp rfl) ?_
          refine ⟨_, rfl, ?_⟩
          refine ⟨?_, st.chg⟩
          show Value.bool _ = Value.bool _
          congr 1
          clear st
          symm
          first
           | (rw [rightE_1 (e := e) (by assumption) hd]; clear hV hr hs ih; rw [Bool.eq_iff_iff]; simp_all <;> omega)
           | (rw [rightE_2 (e := e) (by assumption) hd]; clear hV hr hs ih; rw [Bool.eq_iff_iff]; simp_all <;> omega)
           | exact rightE_0 (e := e) (by assumption) (by assumption) (by assumption) (by assumption)
           | exact rightE_3n (e := e) (by assumption) (by first | exact .inl (by omega) | exact .inr (.inr (.inl (by assumption))) | exact .inr (.inr (.inr (by assumption))) | exact .inr (.inl (by simp [oneOp]; omega)))
           | exact rightE_3d (e := e) (by assumption) (by omega)
           | exact rightE_4n (e := e) (by assumption) (by first | exact .inl (by omega) | exact .inr (.inr (.inl (by assumption))) | exact .inr (.inr (.inr (by assumption))) | exact .inr (.inl (by assumption)))
           | (rw [rightE_3 (e := e) (by assumption) hd (one_form (by omega) hx), op_one.2 (by omega)]; first | rw [if_pos (by assumption)] | rw [if_neg (by assumption)]
              first | (rw [rightE_big (e := x) (by omega)]; simp) | (clear hV hr hs ih hg hc0 hV0 hr0; simp_all))
           | (rw [rightE_4 (e := e) (by assumption) hd (two_form hk2 hx hy)]
              clear hV hr hs ih hg hc0 hc1 hV0 hV1 hr0 hr1
              first | rw [inn_f (x := x) (by assumption)] | rw [inn_n (x := x) (by assumption)]
              first | rw [inn_t (x := y) (by assumption)] | rw [inn_n (x := y) (by assumption)] | skip
              simp_all)
   ·
    intro hc55
    try simp only [dn] at hc55
    refine vc_seq (vc_region ?_)
    refine vc_y rfl rfl (y_eqi rfl rfl) ?_
    refine vc_y rfl rfl (y_as rfl) ?_
    refine vc_end (vq_then (vc_keep [(2, _), (5, _), (105, _)] ⟨rfl, rfl, rfl, trivial⟩ ?_))
    refine vc_ifs rfl ?_ ?_
    ·
     intro hc105
     try simp only [dn] at hc105
     refine vc_seq (vc_seq (vc_region ?_))
     refine vc_y rfl rfl ((by exact y_faz (k := 1) rfl underlying63 rfl rfl sizeOf60 rfl)) ?_
     refine vc_y rfl rfl ((by exact y_ld st 1 rfl isAgg60 rfl rfl)) ?_
     refine vc_e (e_call [_] rfl rfl call94 rfl (two_any _ _) ?_)
     rintro _ _ ⟨rfl, rfl⟩
     refine vc_y rfl rfl (y_not rfl) ?_
     refine vc_e (e_mvb rfl rfl rfl ?_ ?_)
     ·
      intro hg111
      try simp only [dn] at hg111
      iterate 4 refine vc_e (e_skip rfl rfl ?_)
      refine vc_y rfl rfl (y_pickt rfl rfl) ?_
      refine vc_y rfl rfl (y_mv rfl) ?_
      iterate 3 refine vc_e (e_skip rfl rfl ?_)
      refine vc_y rfl rfl (y_pickt rfl rfl) ?_
      refine vc_y rfl rfl (y_mv rfl) ?_
      iterate 3 refine vc_e (e_skip rfl rfl ?_)
      refine vc_y rfl rfl (y_pickt rfl rfl) ?_
      refine vc_end (vq_then (vc_keep [(2, _), (5, _), (126, _)] ⟨rfl, rfl, rfl, trivial⟩ ?_))
      refine vc_ift rfl ?_
      refine vc_seq (vc_region ?_)
      refine vc_y rfl rfl (y_as rfl) ?_
      refine vc_end (vq_then (vc_keep [(4, _)] ⟨rfl, trivial⟩ (vc_ret (vq_then_ret (vq_block_ret (vq_then_ret ?_))))))
      refine vq_ret1 st (.inl rfl) results63 (.tmp rfl) ?_
      refine ⟨_, rfl, ?_⟩
      refine ⟨?_, st.chg⟩
      show Value.bool _ = Value.bool _
      congr 1
      clear st
      symm
      first
       | (rw [rightE_1 (e := e) (by assumption) hd]; clear hV hr hs ih; rw [Bool.eq_iff_iff]; simp_all <;> omega)
       | (rw [rightE_2 (e := e) (by assumption) hd]; clear hV hr hs ih; rw [Bool.eq_iff_iff]; simp_all <;> omega)
       | exact rightE_0 (e := e) (by assumption) (by assumption) (by assumption) (by assumption)
       | exact rightE_3n (e := e) (by assumption) (by first | exact .inl (by omega) | exact .inr (.inr (.inl (by assumption))) | exact .inr (.inr (.inr (by assumption))) | exact .inr (.inl (by simp [oneOp]; omega)))
       | exact rightE_3d (e := e) (by assumption) (by omega)
       | exact rightE_4n (e := e) (by assumption) (by exact .inr (.inl (by assumption)))
       | (rw [rightE_3 (e := e) (by assumption) hd (one_form (by omega) hx), op_one.2 (by omega)]; first | rw [if_pos (by assumption)] | rw [if_neg (by assumption)]
          first | (rw [rightE_big (e := x) (by omega)]; simp) | (clear hV hr hs ih hg hc0 hV0 hr0; simp_all))
       | (rw [rightE_4 (e := e) (by assumption) hd (two_form hk2 hx hy)]
          clear hV hr hs ih hg hc0 hc1 hV0 hV1 hr0 hr1
          first | rw [inn_f (x := x) (by assumption)] | rw [inn_n (x := x) (by assumption)]
          first | rw [inn_t (x := y) (by assumption)] | rw [inn_n (x := y) (by assumption)] | skip
          simp_all)
     ·
      intro hg111
      try simp only [dn] at hg111
      refine vc_y rfl rfl ((by exact y_faz (k := 4) rfl underlying63 rfl rfl sizeOf61 rfl)) ?_
      refine vc_y rfl rfl ((by exact y_ld st 1 rfl isAgg61 rfl rfl)) ?_
      refine vc_y rfl rfl (y_lensl rfl underlying61) ?_
      refine vc_y rfl rfl (y_nei rfl rfl) ?_
      refine vc_y rfl rfl (y_pickf rfl rfl) ?_
      refine vc_e (e_mvb rfl rfl rfl ?_ ?_)
      ·
       intro hg117
       try simp only [dn] at hg117
       iterate 3 refine vc_e (e_skip rfl rfl ?_)
       refine vc_y rfl rfl (y_pickt rfl rfl) ?_
       refine vc_y rfl rfl (y_mv rfl) ?_
       iterate 3 refine vc_e (e_skip rfl rfl ?_)
       refine vc_y rfl rfl (y_pickt rfl rfl) ?_
       refine vc_end (vq_then (vc_keep [(2, _), (5, _), (126, _)] ⟨rfl, rfl, rfl, trivial⟩ ?_))
       refine vc_ift rfl ?_
       refine vc_seq (vc_region ?_)
       refine vc_y rfl rfl (y_as rfl) ?_
       refine vc_end (vq_then (vc_keep [(4, _)] ⟨rfl, trivial⟩ (vc_ret (vq_then_ret (vq_block_ret (vq_then_ret ?_))))))
       refine vq_ret1 st (.inl rfl) results63 (.tmp rfl) ?_
       refine ⟨_, rfl, ?_⟩
       refine ⟨?_, st.chg⟩
       show Value.bool _ = Value.bool _
       congr 1
       clear st
       symm
       first
        | (rw [rightE_1 (e := e) (by assumption) hd]; clear hV hr hs ih; rw [Bool.eq_iff_iff]; simp_all <;> omega)
        | (rw [rightE_2 (e := e) (by assumption) hd]; clear hV hr hs ih; rw [Bool.eq_iff_iff]; simp_all <;> omega)
        | exact rightE_0 (e := e) (by assumption) (by assumption) (by assumption) (by assumption)
        | exact rightE_3n (e := e) (by assumption) (by first | exact .inl (by omega) | exact .inr (.inr (.inl (by assumption))) | exact .inr (.inr (.inr (by assumption))) | exact .inr (.inl (by simp [oneOp]; omega)))
        | exact rightE_3d (e := e) (by assumption) (by omega)
        | exact rightE_4n (e := e) (by assumption) (by exact .inl (by omega))
        | (rw [rightE_3 (e := e) (by assumption) hd (one_form (by omega) hx), op_one.2 (by omega)]; first | rw [if_pos (by assumption)] | rw [if_neg (by assumption)]
           first | (rw [rightE_big (e := x) (by omega)]; simp) | (clear hV hr hs ih hg hc0 hV0 hr0; simp_all))
        | (rw [rightE_4 (e := e) (by assumption) hd (two_form hk2 hx hy)]
           clear hV hr hs ih hg hc0 hc1 hV0 hV1 hr0 hr1
           first | rw [inn_f (x := x) (by assumption)] | rw [inn_n (x := x) (by assumption)]
           first | rw [inn_t (x := y) (by assumption)] | rw [inn_n (x := y) (by assumption)] | skip
           simp_all)
      ·
       intro hg117
       try simp only [dn] at hg117
       refine vc_y rfl rfl ((by exact y_faz (k := 2) rfl underlying63 rfl rfl sizeOf2 rfl)) ?_
       refine vc_y rfl rfl ((by exact y_ld st 1 rfl isAgg2 rfl rfl)) ?_
       refine vc_y rfl rfl (y_nei rfl rfl) ?_
       refine vc_y rfl rfl (y_pickf rfl rfl) ?_
       refine vc_e (e_mvb rfl rfl rfl ?_ ?_)
       ·
        intro hg122
        try simp only [dn] at hg122
        iterate 3 refine vc_e (e_skip rfl rfl ?_)
        refine vc_y rfl rfl (y_pickt rfl rfl) ?_
        refine vc_end (vq_then (vc_keep [(2, _), (5, _), (126, _)] ⟨rfl, rfl, rfl, trivial⟩ ?_))
        refine vc_ift rfl ?_
        refine vc_seq (vc_region ?_)
        refine vc_y rfl rfl (y_as rfl) ?_
        refine vc_end (vq_then (vc_keep [(4, _)] ⟨rfl, trivial⟩ (vc_ret (vq_then_ret (vq_block_ret (vq_then_ret ?_))))))
        refine vq_ret1 st (.inl rfl) results63 (.tmp rfl) ?_
        refine ⟨_, rfl, ?_⟩
        refine ⟨?_, st.chg⟩
        show Value.bool _ = Value.bool _
        congr 1
        clear st
        symm
        first
         | (rw [rightE_1 (e := e) (by assumption) hd]; clear hV hr hs ih; rw [Bool.eq_iff_iff]; simp_all <;> omega)
         | (rw [rightE_2 (e := e) (by assumption) hd]; clear hV hr hs ih; rw [Bool.eq_iff_iff]; simp_all <;> omega)
         | exact rightE_0 (e := e) (by assumption) (by assumption) (by assumption) (by assumption)
         | exact rightE_3n (e := e) (by assumption) (by first | exact .inl (by omega) | exact .inr (.inr (.inl (by assumption))) | exact .inr (.inr (.inr (by assumption))) | exact .inr (.inl (by simp [oneOp]; omega)))
         | exact rightE_3d (e := e) (by assumption) (by omega)
         | exact rightE_4n (e := e) (by assumption) (by exact .inr (.inr (.inl (by assumption))))
         | (rw [rightE_3 (e := e) (by assumption) hd (one_form (by omega) hx), op_one.2 (by omega)]; first | rw [if_pos (by assumption)] | rw [if_neg (by assumption)]
            first | (rw [rightE_big (e := x) (by omega)]; simp) | (clear hV hr hs ih hg hc0 hV0 hr0; simp_all))
         | (rw [rightE_4 (e := e) (by assumption) hd (two_form hk2 hx hy)]
            clear hV hr hs ih hg hc0 hc1 hV0 hV1 hr0 hr1
            first | rw [inn_f (x := x) (by assumption)] | rw [inn_n (x := x) (by assumption)]
            first | rw [inn_t (x := y) (by assumption)] | rw [inn_n (x := y) (by assumption)] | skip
            simp_all)
       ·
        intro hg122
        try simp only [dn] at hg122
        refine vc_y rfl rfl ((by exact y_faz (k := 3) rfl underlying63 rfl rfl sizeOf9 rfl)) ?_
        refine vc_y rfl rfl ((by exact y_ld st 1 rfl isAgg9 rfl rfl)) ?_
        refine vc_y rfl rfl (y_nes rfl rfl) ?_
        refine vc_y rfl rfl (y_pickf rfl rfl) ?_
        refine vc_end (vq_then (vc_keep [(2, _), (5, _), (126, _)] ⟨rfl, rfl, rfl, trivial⟩ ?_))
        refine vc_ifs rfl ?_ ?_
        ·
         intro hc126
         try simp only [dn] at hc126
         refine vc_seq (vc_region ?_)
         refine vc_y rfl rfl (y_as rfl) ?_
         refine vc_end (vq_then (vc_keep [(4, _)] ⟨rfl, trivial⟩ (vc_ret (vq_then_ret (vq_block_ret (vq_then_ret ?_))))))
         refine vq_ret1 st (.inl rfl) results63 (.tmp rfl) ?_
         refine ⟨_, rfl, ?_⟩
         refine ⟨?_, st.chg⟩
         show Value.bool _ = Value.bool _
         congr 1
         clear st
         symm
         first
          | (rw [rightE_1 (e := e) (by assumption) hd]; clear hV hr hs ih; rw [Bool.eq_iff_iff]; simp_all <;> omega)
          | (rw [rightE_2 (e := e) (by assumption) hd]; clear hV hr hs ih; rw [Bool.eq_iff_iff]; simp_all <;> omega)
          | exact rightE_0 (e := e) (by assumption) (by assumption) (by assumption) (by assumption)
          | exact rightE_3n (e := e) (by assumption) (by first | exact .inl (by omega) | exact .inr (.inr (.inl (by assumption))) | exact .inr (.inr (.inr (by assumption))) | exact .inr (.inl (by simp [oneOp]; omega)))
          | exact rightE_3d (e := e) (by assumption) (by omega)
          | exact rightE_4n (e := e) (by assumption) (by exact .inr (.inr (.inr (by assumption))))
          | (rw [rightE_3 (e := e) (by assumption) hd (one_form (by omega) hx), op_one.2 (by omega)]; first | rw [if_pos (by assumption)] | rw [if_neg (by assumption)]
             first | (rw [rightE_big (e := x) (by omega)]; simp) | (clear hV hr hs ih hg hc0 hV0 hr0; simp_all))
          | (rw [rightE_4 (e := e) (by assumption) hd (two_form hk2 hx hy)]
             clear hV hr hs ih hg hc0 hc1 hV0 hV1 hr0 hr1
             first | rw [inn_f (x := x) (by assumption)] | rw [inn_n (x := x) (by assumption)]
             first | rw [inn_t (x := y) (by assumption)] | rw [inn_n (x := y) (by assumption)] | skip
             simp_all)
        ·
         intro hc126
         try simp only [dn] at hc126
         have hk2 : e.kids.length = 2 := by omega
         obtain ⟨x, hx⟩ := get0 hk2 (by omega)
         obtain ⟨y, hy⟩ := get1 hk2
         obtain ⟨gb, go, rfl, hgS, hgl, hg⟩ := ExRow.at hr (by omega)
         obtain ⟨o0, c0, hV0, hr0, hc0⟩ := hg 0 x hx
         obtain ⟨o1, c1, hV1, hr1, hc1⟩ := hg 1 y hy
         refine vc_code_skip (vq_then (vc_keep [(2, _), (5, _)] ⟨rfl, rfl, trivial⟩ (vc_seq (vc_region ?_))))
         refine vc_y rfl rfl ((by exact y_faz (k := 1) rfl underlying63 rfl rfl sizeOf60 rfl)) ?_
         refine vc_y rfl rfl ((by exact y_ld st 1 rfl isAgg60 rfl rfl)) ?_
         refine vc_e (e_call [_] rfl rfl call95 rfl (level_any _ _ (hs.kept st.chg)) ?_)
         rintro _ _ ⟨rfl, rfl⟩
         refine vc_y rfl rfl (y_as rfl) ?_
         refine vc_end (vq_then (vc_keep [(2, _), (5, _), (7, _)] ⟨rfl, rfl, rfl, trivial⟩ (vc_seq ?_)))
         refine vd_draw Tryd.mixed (.take 0 (.take 1 (.take 2 (.take 3 (.take 4 (.take 5 (.take 6 (.take 7 (.two 8 9 (.one 9 (.one 10 (.one 11 .done))) (.one 8 (.one 10 (.one 11 .done)))))))))))) (fun w => St _ _ _ w) st (by kernel_rfl) (by repeat (first | exact okQ_body | refine okQ_then ?_ | refine okQ_block ?_)) rfl (by kernel_rfl) ?_
         intro w cd; replace st := st.call0 cd; clear cd
         have hS := st
         refine vd_take rfl rfl rfl hS (fun w st => (by exact y_faz (k := 4) rfl underlying63 rfl rfl sizeOf61 rfl)) ?_
         refine vd_take rfl rfl rfl hS (fun w st => (by exact y_ld st 1 rfl isAgg61 rfl rfl)) ?_
         refine vd_take rfl rfl rfl hS (fun w st => (by exact y_ia (k := 0) rfl rfl underlying61 sizeOf63 rfl (by omega))) ?_
         refine vd_take rfl rfl rfl hS (fun w st => (by exact y_ldca (exL x o0 c0) rfl isAgg63 sizeOf63 rfl (fun i v hi => st.chg.cell (hc0 i v hi) (by simp)))) ?_
         refine vd_take rfl rfl rfl hS (fun w st => (by exact y_faz (k := 4) rfl underlying63 rfl rfl sizeOf61 rfl)) ?_
         refine vd_take rfl rfl rfl hS (fun w st => (by exact y_ld st 1 rfl isAgg61 rfl rfl)) ?_
         refine vd_take rfl rfl rfl hS (fun w st => (by exact y_ia (k := 1) rfl rfl underlying61 sizeOf63 rfl (by omega))) ?_
         refine vd_take rfl rfl rfl hS (fun w st => (by exact y_ldca (exL y o1 c1) rfl isAgg63 sizeOf63 rfl (fun i v hi => st.chg.cell (hc1 i v hi) (by simp)))) ?_
         refine vd_two rfl rfl ?_ ?_
         ·
          refine (e_al (l := [_, _, _, _, _, _]) st rfl rfl zeroValue63 rfl ?_)
          intro b8 w hb8 st
          refine vd_next (by exact st.drop (by repeat (first | exact sl0 | apply sl1 | apply sl2))) ?_; intro hS
          refine vd_do rfl (e_al (l := [_, _, _, _, _, _]) st rfl rfl zeroValue63 rfl ?_)
          intro b9 w hb9 st
          refine vd_next (by exact st.drop (by repeat (first | exact sl0 | apply sl1 | apply sl2))) ?_; intro hS
          refine vd_do rfl (e_sts (vs := [_, _, _, _, _, _]) st 1 rfl rfl rfl rfl rfl sizeOf63 rfl rfl (by first | (right; assumption) | (left; simp)) ?_)
          intro w st; dsimp only [setNth, wr] at st
          refine vd_next (by exact st.drop (by repeat (first | exact sl0 | apply sl1 | apply sl2))) ?_; intro hS
          refine vd_do rfl (e_sts (vs := [_, _, _, _, _, _]) st 0 rfl rfl rfl rfl rfl sizeOf63 rfl rfl (by first | (right; assumption) | (left; simp)) ?_)
          intro w st; dsimp only [setNth, wr] at st
          refine vd_next (by exact st.drop (by repeat (first | exact sl0 | apply sl1 | apply sl2))) ?_; intro hS
          refine vd_end (vq_then (vc_keep [(5, _), (7, _), (8, _), (9, _)] ⟨rfl, rfl, rfl, rfl, trivial⟩ (vc_seq ?_)))
          refine vc_draw Tryd.mixed [(0, true), (1, true), (2, true), (3, true), (4, true), (5, true), (6, true), (7, true), (9, true), (8, false), (10, true), (11, true), (12, false), (13, true), (14, true), (15, true), (16, true), (17, true), (18, true), (19, true), (20, true), (21, true), (23, true), (22, false), (24, true), (25, true), (26, false), (27, true), (28, true)] (fun w => St _ _ _ w) st (by kernel_rfl) (by repeat (first | exact okQ_body | refine okQ_then ?_ | refine okQ_block ?_)) rfl (by kernel_rfl) ?_
          intro w cd; replace st := st.call0 cd; clear cd
          have hS := st
          refine vp_take rfl rfl rfl hS (fun w st => y_mv rfl) ?_
          refine vp_take rfl rfl rfl hS (fun w st => (by exact y_lda (vs := [_, _, _, _, _, _]) st 1 rfl isAgg63 sizeOf63 rfl rfl)) ?_
          refine vp_take rfl rfl rfl hS (fun w st => y_fa0 rfl underlying63 rfl rfl sizeOf59 rfl) ?_
          refine vp_take rfl rfl rfl hS (fun w st => (by exact y_ld st 1 rfl isAgg59 rfl rfl)) ?_
          refine vp_take rfl rfl rfl hS (fun w st => y_eqi rfl rfl) ?_
          refine vp_part rfl rfl rfl hS rfl ?_ ?_
          ·
           intro hg143
           try simp only [dn] at hg143
           refine vp_take rfl rfl rfl hS (fun w st => (by exact y_faz (k := 1) rfl underlying63 rfl rfl sizeOf60 rfl)) ?_
           refine vp_take rfl rfl rfl hS (fun w st => (by exact y_ld st 1 rfl isAgg60 rfl rfl)) ?_
           refine vp_take rfl rfl rfl hS (fun w st => y_mv rfl) ?_
           refine vp_do rfl (e_call [_] rfl rfl call95 rfl (level_any _ _ (hs.kept st.chg)) ?_)
           rintro _ _ ⟨rfl, rfl⟩
           refine vp_next (by exact st) ?_; intro hS
           refine vp_take rfl rfl rfl hS (fun w st => y_lss rfl rfl) ?_
           refine vp_take rfl rfl rfl hS (fun w st => y_pickt rfl rfl) ?_
           refine vp_do rfl (e_callv [_, _] rfl rfl rfl call93 rfl (kidx_any _ (fun d hd l w hV hs => ih (szo x) (by have := mem_size hx; have := szo_kids e; omega) x rfl d hd l w hV hs) d hd _ _ _ _ (hV0.kept (Same.of_nil st.chg)) (hs.kept st.chg) _ (by exact cell_nth (st.res (i := 2) rfl) rfl)) ?_)
           rintro _ w ⟨rfl, cw⟩
           replace st := st.call0 cw
           refine vp_next (by exact st) ?_; intro hS
           refine vp_part rfl rfl rfl hS rfl ?_ ?_
           ·
            intro hg151
            try simp only [dn] at hg151
            refine vp_take rfl rfl rfl hS (fun w st => y_mv rfl) ?_
            refine vp_take rfl rfl rfl hS (fun w st => (by exact y_lda (vs := [_, _, _, _, _, _]) st 0 rfl isAgg63 sizeOf63 rfl rfl)) ?_
            refine vp_take rfl rfl rfl hS (fun w st => y_fa0 rfl underlying63 rfl rfl sizeOf59 rfl) ?_
            refine vp_take rfl rfl rfl hS (fun w st => (by exact y_ld st 0 rfl isAgg59 rfl rfl)) ?_
            refine vp_take rfl rfl rfl hS (fun w st => y_eqi rfl rfl) ?_
            refine vp_part rfl rfl rfl hS rfl ?_ ?_
            ·
             intro hg157
             try simp only [dn] at hg157
             refine vp_take rfl rfl rfl hS (fun w st => (by exact y_faz (k := 1) rfl underlying63 rfl rfl sizeOf60 rfl)) ?_
             refine vp_take rfl rfl rfl hS (fun w st => (by exact y_ld st 0 rfl isAgg60 rfl rfl)) ?_
             refine vp_take rfl rfl rfl hS (fun w st => y_mv rfl) ?_
             refine vp_do rfl (e_call [_] rfl rfl call95 rfl (level_any _ _ (hs.kept st.chg)) ?_)
             rintro _ _ ⟨rfl, rfl⟩
             refine vp_next (by exact st) ?_; intro hS
             refine vp_take rfl rfl rfl hS (fun w st => y_leq rfl rfl) ?_
             refine vp_take rfl rfl rfl hS (fun w st => y_pickt rfl rfl) ?_
             refine vp_do rfl (e_callv [_, _] rfl rfl rfl call93 rfl (kidx_any _ (fun d hd l w hV hs => ih (szo y) (by have := mem_size hy; have := szo_kids e; omega) y rfl d hd l w hV hs) d hd _ _ _ _ (hV1.kept (Same.of_nil st.chg)) (hs.kept st.chg) _ (by exact cell_nth (st.res (i := 2) rfl) rfl)) ?_)
             rintro _ w ⟨rfl, cw⟩
             replace st := st.call0 cw
             refine vp_next (by exact st) ?_; intro hS
             refine vp_take rfl rfl rfl hS (fun w st => y_pickt rfl rfl) ?_
             refine vp_take rfl rfl rfl hS (fun w st => y_as rfl) ?_
             refine vp_end (vq_then (vc_keep [(4, _)] ⟨rfl, trivial⟩ (vc_ret (vq_block_ret (vq_then_ret ?_)))))
             refine vq_ret1 st (.inl rfl) results63 (.tmp rfl) ?_
             refine ⟨_, rfl, ?_⟩
             refine ⟨?_, st.chg⟩
             show Value.bool _ = Value.bool _
             congr 1
             clear st
             symm
             first
              | (rw [rightE_1 (e := e) (by assumption) hd]; clear hV hr hs ih; rw [Bool.eq_iff_iff]; simp_all <;> omega)
              | (rw [rightE_2 (e := e) (by assumption) hd]; clear hV hr hs ih; rw [Bool.eq_iff_iff]; simp_all <;> omega)
              | exact rightE_0 (e := e) (by assumption) (by assumption) (by assumption) (by assumption)
              | exact rightE_3n (e := e) (by assumption) (by first | exact .inl (by omega) | exact .inr (.inr (.inl (by assumption))) | exact .inr (.inr (.inr (by assumption))) | exact .inr (.inl (by simp [oneOp]; omega)))
              | exact rightE_3d (e := e) (by assumption) (by omega)
              | exact rightE_4n (e := e) (by assumption) (by first | exact .inl (by omega) | exact .inr (.inr (.inl (by assumption))) | exact .inr (.inr (.inr (by assumption))) | exact .inr (.inl (by assumption)))
              | (rw [rightE_3 (e := e) (by assumption) hd (one_form (by omega) hx), op_one.2 (by omega)]; first | rw [if_pos (by assumption)] | rw [if_neg (by assumption)]
                 first | (rw [rightE_big (e := x) (by omega)]; simp) | (clear hV hr hs ih hg hc0 hV0 hr0; simp_all))
              | (rw [rightE_4 (e := e) (by assumption) hd (two_form hk2 hx hy)]
                 clear hV hr hs ih hg hc0 hc1 hV0 hV1 hr0 hr1
                 first | rw [inn_f (x := x) (by assumption)] | rw [inn_n (x := x) (by assumption)]
                 first | rw [inn_t (x := y) (by assumption)] | rw [inn_n (x := y) (by assumption)] | skip
                 simp_all)
            ·
             intro hg157
             try simp only [dn] at hg157
             iterate 3 refine vp_skip rfl rfl rfl hS ?_
             refine vp_do rfl (e_skip rfl rfl (vp_next hS (fun hS => ?_)))
             refine vp_skip rfl rfl rfl hS ?_
             refine vp_take rfl rfl rfl hS (fun w st => y_pickf rfl rfl) ?_
             refine vp_do rfl (e_callv [_, _] rfl rfl rfl call93 rfl (kidx_any _ (fun d hd l w hV hs => ih (szo y) (by have := mem_size hy; have := szo_kids e; omega) y rfl d hd l w hV hs) d hd _ _ _ _ (hV1.kept (Same.of_nil st.chg)) (hs.kept st.chg) _ (by exact cell_nth (st.res (i := 2) rfl) rfl)) ?_)
             rintro _ w ⟨rfl, cw⟩
             replace st := st.call0 cw
             refine vp_next (by exact st) ?_; intro hS
             refine vp_take rfl rfl rfl hS (fun w st => y_pickt rfl rfl) ?_
             refine vp_take rfl rfl rfl hS (fun w st => y_as rfl) ?_
             refine vp_end (vq_then (vc_keep [(4, _)] ⟨rfl, trivial⟩ (vc_ret (vq_block_ret (vq_then_ret ?_)))))
             refine vq_ret1 st (.inl rfl) results63 (.tmp rfl) ?_
             refine ⟨_, rfl, ?_⟩
             refine ⟨?_, st.chg⟩
             show Value.bool _ = Value.bool _
             congr 1
             clear st
             symm
             first
              | (rw [rightE_1 (e := e) (by assumption) hd]; clear hV hr hs ih; rw [Bool.eq_iff_iff]; simp_all <;> omega)
              | (rw [rightE_2 (e := e) (by assumption) hd]; clear hV hr hs ih; rw [Bool.eq_iff_iff]; simp_all <;> omega)
              | exact rightE_0 (e := e) (by assumption) (by assumption) (by assumption) (by assumption)
              | exact rightE_3n (e := e) (by assumption) (by first | exact .inl (by omega) | exact .inr (.inr (.inl (by assumption))) | exact .inr (.inr (.inr (by assumption))) | exact .inr (.inl (by simp [oneOp]; omega)))
              | exact rightE_3d (e := e) (by assumption) (by omega)
              | exact rightE_4n (e := e) (by assumption) (by first | exact .inl (by omega) | exact .inr (.inr (.inl (by assumption))) | exact .inr (.inr (.inr (by assumption))) | exact .inr (.inl (by assumption)))
              | (rw [rightE_3 (e := e) (by assumption) hd (one_form (by omega) hx), op_one.2 (by omega)]; first | rw [if_pos (by assumption)] | rw [if_neg (by assumption)]
                 first | (rw [rightE_big (e := x) (by omega)]; simp) | (clear hV hr hs ih hg hc0 hV0 hr0; simp_all))
              | (rw [rightE_4 (e := e) (by assumption) hd (two_form hk2 hx hy)]
                 clear hV hr hs ih hg hc0 hc1 hV0 hV1 hr0 hr1
                 first | rw [inn_f (x := x) (by assumption)] | rw [inn_n (x := x) (by assumption)]
                 first | rw [inn_t (x := y) (by assumption)] | rw [inn_n (x := y) (by assumption)] | skip
                 simp_all)
           ·
            intro hg151
            try simp only [dn] at hg151
            iterate 9 refine vp_skip rfl rfl rfl hS ?_
            refine vp_do rfl (e_skip rfl rfl (vp_next hS (fun hS => ?_)))
            iterate 2 refine vp_skip rfl rfl rfl hS ?_
            refine vp_do rfl (e_skip rfl rfl (vp_next hS (fun hS => ?_)))
            refine vp_take rfl rfl rfl hS (fun w st => y_pickf rfl rfl) ?_
            refine vp_take rfl rfl rfl hS (fun w st => y_as rfl) ?_
            refine vp_end (vq_then (vc_keep [(4, _)] ⟨rfl, trivial⟩ (vc_ret (vq_block_ret (vq_then_ret ?_)))))
            refine vq_ret1 st (.inl rfl) results63 (.tmp rfl) ?_
            refine ⟨_, rfl, ?_⟩
            refine ⟨?_, st.chg⟩
            show Value.bool _ = Value.bool _
            congr 1
            clear st
            symm
            first
             | (rw [rightE_1 (e := e) (by assumption) hd]; clear hV hr hs ih; rw [Bool.eq_iff_iff]; simp_all <;> omega)
             | (rw [rightE_2 (e := e) (by assumption) hd]; clear hV hr hs ih; rw [Bool.eq_iff_iff]; simp_all <;> omega)
             | exact rightE_0 (e := e) (by assumption) (by assumption) (by assumption) (by assumption)
             | exact rightE_3n (e := e) (by assumption) (by first | exact .inl (by omega) | exact .inr (.inr (.inl (by assumption))) | exact .inr (.inr (.inr (by assumption))) | exact .inr (.inl (by simp [oneOp]; omega)))
             | exact rightE_3d (e := e) (by assumption) (by omega)
             | exact rightE_4n (e := e) (by assumption) (by first | exact .inl (by omega) | exact .inr (.inr (.inl (by assumption))) | exact .inr (.inr (.inr (by assumption))) | exact .inr (.inl (by assumption)))
             | (rw [rightE_3 (e := e) (by assumption) hd (one_form (by omega) hx), op_one.2 (by omega)]; first | rw [if_pos (by assumption)] | rw [if_neg (by assumption)]
                first | (rw [rightE_big (e := x) (by omega)]; simp) | (clear hV hr hs ih hg hc0 hV0 hr0; simp_all))
             | (rw [rightE_4 (e := e) (by assumption) hd (two_form hk2 hx hy)]
                clear hV hr hs ih hg hc0 hc1 hV0 hV1 hr0 hr1
                first | rw [inn_f (x := x) (by assumption)] | rw [inn_n (x := x) (by assumption)]
                first | rw [inn_t (x := y) (by assumption)] | rw [inn_n (x := y) (by assumption)] | skip
                simp_all)
          ·
           intro hg143
           try simp only [dn] at hg143
           iterate 3 refine vp_skip rfl rfl rfl hS ?_
           refine vp_do rfl (e_skip rfl rfl (vp_next hS (fun hS => ?_)))
           refine vp_skip rfl rfl rfl hS ?_
           refine vp_take rfl rfl rfl hS (fun w st => y_pickf rfl rfl) ?_
           refine vp_do rfl (e_callv [_, _] rfl rfl rfl call93 rfl (kidx_any _ (fun d hd l w hV hs => ih (szo x) (by have := mem_size hx; have := szo_kids e; omega) x rfl d hd l w hV hs) d hd _ _ _ _ (hV0.kept (Same.of_nil st.chg)) (hs.kept st.chg) _ (by exact cell_nth (st.res (i := 2) rfl) rfl)) ?_)
           rintro _ w ⟨rfl, cw⟩
           replace st := st.call0 cw
           refine vp_next (by exact st) ?_; intro hS
           refine vp_part rfl rfl rfl hS rfl ?_ ?_
           ·
            intro hg151
            try simp only [dn] at hg151
            refine vp_take rfl rfl rfl hS (fun w st => y_mv rfl) ?_
            refine vp_take rfl rfl rfl hS (fun w st => (by exact y_lda (vs := [_, _, _, _, _, _]) st 0 rfl isAgg63 sizeOf63 rfl rfl)) ?_
            refine vp_take rfl rfl rfl hS (fun w st => y_fa0 rfl underlying63 rfl rfl sizeOf59 rfl) ?_
            refine vp_take rfl rfl rfl hS (fun w st => (by exact y_ld st 0 rfl isAgg59 rfl rfl)) ?_
            refine vp_take rfl rfl rfl hS (fun w st => y_eqi rfl rfl) ?_
            refine vp_part rfl rfl rfl hS rfl ?_ ?_
            ·
             intro hg157
             try simp only [dn] at hg157
             refine vp_take rfl rfl rfl hS (fun w st => (by exact y_faz (k := 1) rfl underlying63 rfl rfl sizeOf60 rfl)) ?_
             refine vp_take rfl rfl rfl hS (fun w st => (by exact y_ld st 0 rfl isAgg60 rfl rfl)) ?_
             refine vp_take rfl rfl rfl hS (fun w st => y_mv rfl) ?_
             refine vp_do rfl (e_call [_] rfl rfl call95 rfl (level_any _ _ (hs.kept st.chg)) ?_)
             rintro _ _ ⟨rfl, rfl⟩
             refine vp_next (by exact st) ?_; intro hS
             refine vp_take rfl rfl rfl hS (fun w st => y_leq rfl rfl) ?_
             refine vp_take rfl rfl rfl hS (fun w st => y_pickt rfl rfl) ?_
             refine vp_do rfl (e_callv [_, _] rfl rfl rfl call93 rfl (kidx_any _ (fun d hd l w hV hs => ih (szo y) (by have := mem_size hy; have := szo_kids e; omega) y rfl d hd l w hV hs) d hd _ _ _ _ (hV1.kept (Same.of_nil st.chg)) (hs.kept st.chg) _ (by exact cell_nth (st.res (i := 2) rfl) rfl)) ?_)
             rintro _ w ⟨rfl, cw⟩
             replace st := st.call0 cw
             refine vp_next (by exact st) ?_; intro hS
             refine vp_take rfl rfl rfl hS (fun w st => y_pickt rfl rfl) ?_
             refine vp_take rfl rfl rfl hS (fun w st => y_as rfl) ?_
             refine vp_end (vq_then (vc_keep [(4, _)] ⟨rfl, trivial⟩ (vc_ret (vq_block_ret (vq_then_ret ?_)))))
             refine vq_ret1 st (.inl rfl) results63 (.tmp rfl) ?_
             refine ⟨_, rfl, ?_⟩
             refine ⟨?_, st.chg⟩
             show Value.bool _ = Value.bool _
             congr 1
             clear st
             symm
             first
              | (rw [rightE_1 (e := e) (by assumption) hd]; clear hV hr hs ih; rw [Bool.eq_iff_iff]; simp_all <;> omega)
              | (rw [rightE_2 (e := e) (by assumption) hd]; clear hV hr hs ih; rw [Bool.eq_iff_iff]; simp_all <;> omega)
              | exact rightE_0 (e := e) (by assumption) (by assumption) (by assumption) (by assumption)
              | exact rightE_3n (e := e) (by assumption) (by first | exact .inl (by omega) | exact .inr (.inr (.inl (by assumption))) | exact .inr (.inr (.inr (by assumption))) | exact .inr (.inl (by simp [oneOp]; omega)))
              | exact rightE_3d (e := e) (by assumption) (by omega)
              | exact rightE_4n (e := e) (by assumption) (by first | exact .inl (by omega) | exact .inr (.inr (.inl (by assumption))) | exact .inr (.inr (.inr (by assumption))) | exact .inr (.inl (by assumption)))
              | (rw [rightE_3 (e := e) (by assumption) hd (one_form (by omega) hx), op_one.2 (by omega)]; first | rw [if_pos (by assumption)] | rw [if_neg (by assumption)]
                 first | (rw [rightE_big (e := x) (by omega)]; simp) | (clear hV hr hs ih hg hc0 hV0 hr0; simp_all))
              | (rw [rightE_4 (e := e) (by assumption) hd (two_form hk2 hx hy)]
                 clear hV hr hs ih hg hc0 hc1 hV0 hV1 hr0 hr1
                 first | rw [inn_f (x := x) (by assumption)] | rw [inn_n (x := x) (by assumption)]
                 first | rw [inn_t (x := y) (by assumption)] | rw [inn_n (x := y) (by assumption)] | skip
                 simp_all)
            ·
             intro hg157
             try simp only [dn] at hg157
             iterate 3 refine vp_skip rfl rfl rfl hS ?_
             refine vp_do rfl (e_skip rfl rfl (vp_next hS (fun hS => ?_)))
             refine vp_skip rfl rfl rfl hS ?_
             refine vp_take rfl rfl rfl hS (fun w st => y_pickf rfl rfl) ?_
             refine vp_do rfl (e_callv [_, _] rfl rfl rfl call93 rfl (kidx_any _ (fun d hd l w hV hs => ih (szo y) (by have := mem_size hy; have := szo_kids e; omega) y rfl d hd l w hV hs) d hd _ _ _ _ (hV1.kept (Same.of_nil st.chg)) (hs.kept st.chg) _ (by exact cell_nth (st.res (i := 2) rfl) rfl)) ?_)
             rintro _ w ⟨rfl, cw⟩
             replace st := st.call0 cw
             refine vp_next (by exact st) ?_; intro hS
             refine vp_take rfl rfl rfl hS (fun w st => y_pickt rfl rfl) ?_
             refine vp_take rfl rfl rfl hS (fun w st => y_as rfl) ?_
             refine vp_end (vq_then (vc_keep [(4, _)] ⟨rfl, trivial⟩ (vc_ret (vq_block_ret (vq_then_ret ?_)))))
             refine vq_ret1 st (.inl rfl) results63 (.tmp rfl) ?_
             refine ⟨_, rfl, ?_⟩
             refine ⟨?_, st.chg⟩
             show Value.bool _ = Value.bool _
             congr 1
             clear st
             symm
             first
              | (rw [rightE_1 (e := e) (by assumption) hd]; clear hV hr hs ih; rw [Bool.eq_iff_iff]; simp_all <;> omega)
              | (rw [rightE_2 (e := e) (by assumption) hd]; clear hV hr hs ih; rw [Bool.eq_iff_iff]; simp_all <;> omega)
              | exact rightE_0 (e := e) (by assumption) (by assumption) (by assumption) (by assumption)
              | exact rightE_3n (e := e) (by assumption) (by first | exact .inl (by omega) | exact .inr (.inr (.inl (by assumption))) | exact .inr (.inr (.inr (by assumption))) | exact .inr (.inl (by simp [oneOp]; omega)))
              | exact rightE_3d (e := e) (by assumption) (by omega)
              | exact rightE_4n (e := e) (by assumption) (by first | exact .inl (by omega) | exact .inr (.inr (.inl (by assumption))) | exact .inr (.inr (.inr (by assumption))) | exact .inr (.inl (by assumption)))
              | (rw [rightE_3 (e := e) (by assumption) hd (one_form (by omega) hx), op_one.2 (by omega)]; first | rw [if_pos (by assumption)] | rw [if_neg (by assumption)]
                 first | (rw [rightE_big (e := x) (by omega)]; simp) | (clear hV hr hs ih hg hc0 hV0 hr0; simp_all))
              | (rw [rightE_4 (e := e) (by assumption) hd (two_form hk2 hx hy)]
                 clear hV hr hs ih hg hc0 hc1 hV0 hV1 hr0 hr1
                 first | rw [inn_f (x := x) (by assumption)] | rw [inn_n (x := x) (by assumption)]
                 first | rw [inn_t (x := y) (by assumption)] | rw [inn_n (x := y) (by assumption)] | skip
                 simp_all)
           ·
            intro hg151
            try simp only [dn] at hg151
            iterate 9 refine vp_skip rfl rfl rfl hS ?_
            refine vp_do rfl (e_skip rfl rfl (vp_next hS (fun hS => ?_)))
            iterate 2 refine vp_skip rfl rfl rfl hS ?_
            refine vp_do rfl (e_skip rfl rfl (vp_next hS (fun hS => ?_)))
            refine vp_take rfl rfl rfl hS (fun w st => y_pickf rfl rfl) ?_
            refine vp_take rfl rfl rfl hS (fun w st => y_as rfl) ?_
            refine vp_end (vq_then (vc_keep [(4, _)] ⟨rfl, trivial⟩ (vc_ret (vq_block_ret (vq_then_ret ?_)))))
            refine vq_ret1 st (.inl rfl) results63 (.tmp rfl) ?_
            refine ⟨_, rfl, ?_⟩
            refine ⟨?_, st.chg⟩
            show Value.bool _ = Value.bool _
            congr 1
            clear st
            symm
            first
             | (rw [rightE_1 (e := e) (by assumption) hd]; clear hV hr hs ih; rw [Bool.eq_iff_iff]; simp_all <;> omega)
             | (rw [rightE_2 (e := e) (by assumption) hd]; clear hV hr hs ih; rw [Bool.eq_iff_iff]; simp_all <;> omega)
             | exact rightE_0 (e := e) (by assumption) (by assumption) (by assumption) (by assumption)
             | exact rightE_3n (e := e) (by assumption) (by first | exact .inl (by omega) | exact .inr (.inr (.inl (by assumption))) | exact .inr (.inr (.inr (by assumption))) | exact .inr (.inl (by simp [oneOp]; omega)))
             | exact rightE_3d (e := e) (by assumption) (by omega)
             | exact rightE_4n (e := e) (by assumption) (by first | exact .inl (by omega) | exact .inr (.inr (.inl (by assumption))) | exact .inr (.inr (.inr (by assumption))) | exact .inr (.inl (by assumption)))
             | (rw [rightE_3 (e := e) (by assumption) hd (one_form (by omega) hx), op_one.2 (by omega)]; first | rw [if_pos (by assumption)] | rw [if_neg (by assumption)]
                first | (rw [rightE_big (e := x) (by omega)]; simp) | (clear hV hr hs ih hg hc0 hV0 hr0; simp_all))
             | (rw [rightE_4 (e := e) (by assumption) hd (two_form hk2 hx hy)]
                clear hV hr hs ih hg hc0 hc1 hV0 hV1 hr0 hr1
                first | rw [inn_f (x := x) (by assumption)] | rw [inn_n (x := x) (by assumption)]
                first | rw [inn_t (x := y) (by assumption)] | rw [inn_n (x := y) (by assumption)] | skip
                simp_all)
         ·
          refine (e_al (l := [_, _, _, _, _, _]) st rfl rfl zeroValue63 rfl ?_)
          intro b9 w hb9 st
          refine vd_next (by exact st.drop (by repeat (first | exact sl0 | apply sl1 | apply sl2))) ?_; intro hS
          refine vd_do rfl (e_al (l := [_, _, _, _, _, _]) st rfl rfl zeroValue63 rfl ?_)
          intro b8 w hb8 st
          refine vd_next (by exact st.drop (by repeat (first | exact sl0 | apply sl1 | apply sl2))) ?_; intro hS
          refine vd_do rfl (e_sts (vs := [_, _, _, _, _, _]) st 0 rfl rfl rfl rfl rfl sizeOf63 rfl rfl (by first | (right; assumption) | (left; simp)) ?_)
          intro w st; dsimp only [setNth, wr] at st
          refine vd_next (by exact st.drop (by repeat (first | exact sl0 | apply sl1 | apply sl2))) ?_; intro hS
          refine vd_do rfl (e_sts (vs := [_, _, _, _, _, _]) st 1 rfl rfl rfl rfl rfl sizeOf63 rfl rfl (by first | (right; assumption) | (left; simp)) ?_)
          intro w st; dsimp only [setNth, wr] at st
          refine vd_next (by exact st.drop (by repeat (first | exact sl0 | apply sl1 | apply sl2))) ?_; intro hS
          refine vd_end (vq_then (vc_keep [(5, _), (7, _), (8, _), (9, _)] ⟨rfl, rfl, rfl, rfl, trivial⟩ (vc_seq ?_)))
          refine vc_draw Tryd.mixed [(0, true), (1, true), (2, true), (3, true), (4, true), (5, true), (6, true), (7, true), (9, true), (8, false), (10, true), (11, true), (12, false), (13, true), (14, true), (15, true), (16, true), (17, true), (18, true), (19, true), (20, true), (21, true), (23, true), (22, false), (24, true), (25, true), (26, false), (27, true), (28, true)] (fun w => St _ _ _ w) st (by kernel_rfl) (by repeat (first | exact okQ_body | refine okQ_then ?_ | refine okQ_block ?_)) rfl (by kernel_rfl) ?_
          intro w cd; replace st := st.call0 cd; clear cd
          have hS := st
          refine vp_take rfl rfl rfl hS (fun w st => y_mv rfl) ?_
          refine vp_take rfl rfl rfl hS (fun w st => (by exact y_lda (vs := [_, _, _, _, _, _]) st 0 rfl isAgg63 sizeOf63 rfl rfl)) ?_
          refine vp_take rfl rfl rfl hS (fun w st => y_fa0 rfl underlying63 rfl rfl sizeOf59 rfl) ?_
          refine vp_take rfl rfl rfl hS (fun w st => (by exact y_ld st 0 rfl isAgg59 rfl rfl)) ?_
          refine vp_take rfl rfl rfl hS (fun w st => y_eqi rfl rfl) ?_
          refine vp_part rfl rfl rfl hS rfl ?_ ?_
          ·
           intro hg143
           try simp only [dn] at hg143
           refine vp_take rfl rfl rfl hS (fun w st => (by exact y_faz (k := 1) rfl underlying63 rfl rfl sizeOf60 rfl)) ?_
           refine vp_take rfl rfl rfl hS (fun w st => (by exact y_ld st 0 rfl isAgg60 rfl rfl)) ?_
           refine vp_take rfl rfl rfl hS (fun w st => y_mv rfl) ?_
           refine vp_do rfl (e_call [_] rfl rfl call95 rfl (level_any _ _ (hs.kept st.chg)) ?_)
           rintro _ _ ⟨rfl, rfl⟩
           refine vp_next (by exact st) ?_; intro hS
           refine vp_take rfl rfl rfl hS (fun w st => y_lss rfl rfl) ?_
           refine vp_take rfl rfl rfl hS (fun w st => y_pickt rfl rfl) ?_
           refine vp_do rfl (e_callv [_, _] rfl rfl rfl call93 rfl (kidx_any _ (fun d hd l w hV hs => ih (szo x) (by have := mem_size hx; have := szo_kids e; omega) x rfl d hd l w hV hs) d hd _ _ _ _ (hV0.kept (Same.of_nil st.chg)) (hs.kept st.chg) _ (by exact cell_nth (st.res (i := 2) rfl) rfl)) ?_)
           rintro _ w ⟨rfl, cw⟩
           replace st := st.call0 cw
           refine vp_next (by exact st) ?_; intro hS
           refine vp_part rfl rfl rfl hS rfl ?_ ?_
           ·
            intro hg151
            try simp only [dn] at hg151
            refine vp_take rfl rfl rfl hS (fun w st => y_mv rfl) ?_
            refine vp_take rfl rfl rfl hS (fun w st => (by exact y_lda (vs := [_, _, _, _, _, _]) st 1 rfl isAgg63 sizeOf63 rfl rfl)) ?_
            refine vp_take rfl rfl rfl hS (fun w st => y_fa0 rfl underlying63 rfl rfl sizeOf59 rfl) ?_
            refine vp_take rfl rfl rfl hS (fun w st => (by exact y_ld st 1 rfl isAgg59 rfl rfl)) ?_
            refine vp_take rfl rfl rfl hS (fun w st => y_eqi rfl rfl) ?_
            refine vp_part rfl rfl rfl hS rfl ?_ ?_
            ·
             intro hg157
             try simp only [dn] at hg157
             refine vp_take rfl rfl rfl hS (fun w st => (by exact y_faz (k := 1) rfl underlying63 rfl rfl sizeOf60 rfl)) ?_
             refine vp_take rfl rfl rfl hS (fun w st => (by exact y_ld st 1 rfl isAgg60 rfl rfl)) ?_
             refine vp_take rfl rfl rfl hS (fun w st => y_mv rfl) ?_
             refine vp_do rfl (e_call [_] rfl rfl call95 rfl (level_any _ _ (hs.kept st.chg)) ?_)
             rintro _ _ ⟨rfl, rfl⟩
             refine vp_next (by exact st) ?_; intro hS
             refine vp_take rfl rfl rfl hS (fun w st => y_leq rfl rfl) ?_
             refine vp_take rfl rfl rfl hS (fun w st => y_pickt rfl rfl) ?_
             refine vp_do rfl (e_callv [_, _] rfl rfl rfl call93 rfl (kidx_any _ (fun d hd l w hV hs => ih (szo y) (by have := mem_size hy; have := szo_kids e; omega) y rfl d hd l w hV hs) d hd _ _ _ _ (hV1.kept (Same.of_nil st.chg)) (hs.kept st.chg) _ (by exact cell_nth (st.res (i := 2) rfl) rfl)) ?_)
             rintro _ w ⟨rfl, cw⟩
             replace st := st.call0 cw
             refine vp_next (by exact st) ?_; intro hS
             refine vp_take rfl rfl rfl hS (fun w st => y_pickt rfl rfl) ?_
             refine vp_take rfl rfl rfl hS (fun w st => y_as rfl) ?_
             refine vp_end (vq_then (vc_keep [(4, _)] ⟨rfl, trivial⟩ (vc_ret (vq_block_ret (vq_then_ret ?_)))))
             refine vq_ret1 st (.inl rfl) results63 (.tmp rfl) ?_
             refine ⟨_, rfl, ?_⟩
             refine ⟨?_, st.chg⟩
             show Value.bool _ = Value.bool _
             congr 1
             clear st
             symm
             first
              | (rw [rightE_1 (e := e) (by assumption) hd]; clear hV hr hs ih; rw [Bool.eq_iff_iff]; simp_all <;> omega)
              | (rw [rightE_2 (e := e) (by assumption) hd]; clear hV hr hs ih; rw [Bool.eq_iff_iff]; simp_all <;> omega)
              | exact rightE_0 (e := e) (by assumption) (by assumption) (by assumption) (by assumption)
              | exact rightE_3n (e := e) (by assumption) (by first | exact .inl (by omega) | exact .inr (.inr (.inl (by assumption))) | exact .inr (.inr (.inr (by assumption))) | exact .inr (.inl (by simp [oneOp]; omega)))
              | exact rightE_3d (e := e) (by assumption) (by omega)
              | exact rightE_4n (e := e) (by assumption) (by first | exact .inl (by omega) | exact .inr (.inr (.inl (by assumption))) | exact .inr (.inr (.inr (by assumption))) | exact .inr (.inl (by assumption)))
              | (rw [rightE_3 (e := e) (by assumption) hd (one_form (by omega) hx), op_one.2 (by omega)]; first | rw [if_pos (by assumption)] | rw [if_neg (by assumption)]
                 first | (rw [rightE_big (e := x) (by omega)]; simp) | (clear hV hr hs ih hg hc0 hV0 hr0; simp_all))
              | (rw [rightE_4 (e := e) (by assumption) hd (two_form hk2 hx hy)]
                 clear hV hr hs ih hg hc0 hc1 hV0 hV1 hr0 hr1
                 first | rw [inn_f (x := x) (by assumption)] | rw [inn_n (x := x) (by assumption)]
                 first | rw [inn_t (x := y) (by assumption)] | rw [inn_n (x := y) (by assumption)] | skip
                 simp_all)
            ·
             intro hg157
             try simp only [dn] at hg157
             iterate 3 refine vp_skip rfl rfl rfl hS ?_
             refine vp_do rfl (e_skip rfl rfl (vp_next hS (fun hS => ?_)))
             refine vp_skip rfl rfl rfl hS ?_
             refine vp_take rfl rfl rfl hS (fun w st => y_pickf rfl rfl) ?_
             refine vp_do rfl (e_callv [_, _] rfl rfl rfl call93 rfl (kidx_any _ (fun d hd l w hV hs => ih (szo y) (by have := mem_size hy; have := szo_kids e; omega) y rfl d hd l w hV hs) d hd _ _ _ _ (hV1.kept (Same.of_nil st.chg)) (hs.kept st.chg) _ (by exact cell_nth (st.res (i := 2) rfl) rfl)) ?_)
             rintro _ w ⟨rfl, cw⟩
             replace st := st.call0 cw
             refine vp_next (by exact st) ?_; intro hS
             refine vp_take rfl rfl rfl hS (fun w st => y_pickt rfl rfl) ?_
             refine vp_take rfl rfl rfl hS (fun w st => y_as rfl) ?_
             refine vp_end (vq_then (vc_keep [(4, _)] ⟨rfl, trivial⟩ (vc_ret (vq_block_ret (vq_then_ret ?_)))))
             refine vq_ret1 st (.inl rfl) results63 (.tmp rfl) ?_
             refine ⟨_, rfl, ?_⟩
             refine ⟨?_, st.chg⟩
             show Value.bool _ = Value.bool _
             congr 1
             clear st
             symm
             first
              | (rw [rightE_1 (e := e) (by assumption) hd]; clear hV hr hs ih; rw [Bool.eq_iff_iff]; simp_all <;> omega)
              | (rw [rightE_2 (e := e) (by assumption) hd]; clear hV hr hs ih; rw [Bool.eq_iff_iff]; simp_all <;> omega)
              | exact rightE_0 (e := e) (by assumption) (by assumption) (by assumption) (by assumption)
              | exact rightE_3n (e := e) (by assumption) (by first | exact .inl (by omega) | exact .inr (.inr (.inl (by assumption))) | exact .inr (.inr (.inr (by assumption))) | exact .inr (.inl (by simp [oneOp]; omega)))
              | exact rightE_3d (e := e) (by assumption) (by omega)
              | exact rightE_4n (e := e) (by assumption) (by first | exact .inl (by omega) | exact .inr (.inr (.inl (by assumption))) | exact .inr (.inr (.inr (by assumption))) | exact .inr (.inl (by assumption)))
              | (rw [rightE_3 (e := e) (by assumption) hd (one_form (by omega) hx), op_one.2 (by omega)]; first | rw [if_pos (by assumption)] | rw [if_neg (by assumption)]
                 first | (rw [rightE_big (e := x) (by omega)]; simp) | (clear hV hr hs ih hg hc0 hV0 hr0; simp_all))
              | (rw [rightE_4 (e := e) (by assumption) hd (two_form hk2 hx hy)]
                 clear hV hr hs ih hg hc0 hc1 hV0 hV1 hr0 hr1
                 first | rw [inn_f (x := x) (by assumption)] | rw [inn_n (x := x) (by assumption)]
                 first | rw [inn_t (x := y) (by assumption)] | rw [inn_n (x := y) (by assumption)] | skip
                 simp_all)
           ·
            intro hg151
            try simp only [dn] at hg151
            iterate 9 refine vp_skip rfl rfl rfl hS ?_
            refine vp_do rfl (e_skip rfl rfl (vp_next hS (fun hS => ?_)))
            iterate 2 refine vp_skip rfl rfl rfl hS ?_
            refine vp_do rfl (e_skip rfl rfl (vp_next hS (fun hS => ?_)))
            refine vp_take rfl rfl rfl hS (fun w st => y_pickf rfl rfl) ?_
            refine vp_take rfl rfl rfl hS (fun w st => y_as rfl) ?_
            refine vp_end (vq_then (vc_keep [(4, _)] ⟨rfl, trivial⟩ (vc_ret (vq_block_ret (vq_then_ret ?_)))))
            refine vq_ret1 st (.inl rfl) results63 (.tmp rfl) ?_
            refine ⟨_, rfl, ?_⟩
            refine ⟨?_, st.chg⟩
            show Value.bool _ = Value.bool _
            congr 1
            clear st
            symm
            first
             | (rw [rightE_1 (e := e) (by assumption) hd]; clear hV hr hs ih; rw [Bool.eq_iff_iff]; simp_all <;> omega)
             | (rw [rightE_2 (e := e) (by assumption) hd]; clear hV hr hs ih; rw [Bool.eq_iff_iff]; simp_all <;> omega)
             | exact rightE_0 (e := e) (by assumption) (by assumption) (by assumption) (by assumption)
             | exact rightE_3n (e := e) (by assumption) (by first | exact .inl (by omega) | exact .inr (.inr (.inl (by assumption))) | exact .inr (.inr (.inr (by assumption))) | exact .inr (.inl (by simp [oneOp]; omega)))
             | exact rightE_3d (e := e) (by assumption) (by omega)
             | exact rightE_4n (e := e) (by assumption) (by first | exact .inl (by omega) | exact .inr (.inr (.inl (by assumption))) | exact .inr (.inr (.inr (by assumption))) | exact .inr (.inl (by assumption)))
             | (rw [rightE_3 (e := e) (by assumption) hd (one_form (by omega) hx), op_one.2 (by omega)]; first | rw [if_pos (by assumption)] | rw [if_neg (by assumption)]
                first | (rw [rightE_big (e := x) (by omega)]; simp) | (clear hV hr hs ih hg hc0 hV0 hr0; simp_all))
             | (rw [rightE_4 (e := e) (by assumption) hd (two_form hk2 hx hy)]
                clear hV hr hs ih hg hc0 hc1 hV0 hV1 hr0 hr1
                first | rw [inn_f (x := x) (by assumption)] | rw [inn_n (x := x) (by assumption)]
                first | rw [inn_t (x := y) (by assumption)] | rw [inn_n (x := y) (by assumption)] | skip
                simp_all)
          ·
           intro hg143
           try simp only [dn] at hg143
           iterate 3 refine vp_skip rfl rfl rfl hS ?_
           refine vp_do rfl (e_skip rfl rfl (vp_next hS (fun hS => ?_)))
           refine vp_skip rfl rfl rfl hS ?_
           refine vp_take rfl rfl rfl hS (fun w st => y_pickf rfl rfl) ?_
           refine vp_do rfl (e_callv [_, _] rfl rfl rfl call93 rfl (kidx_any _ (fun d hd l w hV hs => ih (szo x) (by have := mem_size hx; have := szo_kids e; omega) x rfl d hd l w hV hs) d hd _ _ _ _ (hV0.kept (Same.of_nil st.chg)) (hs.kept st.chg) _ (by exact cell_nth (st.res (i := 2) rfl) rfl)) ?_)
           rintro _ w ⟨rfl, cw⟩
           replace st := st.call0 cw
           refine vp_next (by exact st) ?_; intro hS
           refine vp_part rfl rfl rfl hS rfl ?_ ?_
           ·
            intro hg151
            try simp only [dn] at hg151
            refine vp_take rfl rfl rfl hS (fun w st => y_mv rfl) ?_
            refine vp_take rfl rfl rfl hS (fun w st => (by exact y_lda (vs := [_, _, _, _, _, _]) st 1 rfl isAgg63 sizeOf63 rfl rfl)) ?_
            refine vp_take rfl rfl rfl hS (fun w st => y_fa0 rfl underlying63 rfl rfl sizeOf59 rfl) ?_
            refine vp_take rfl rfl rfl hS (fun w st => (by exact y_ld st 1 rfl isAgg59 rfl rfl)) ?_
            refine vp_take rfl rfl rfl hS (fun w st => y_eqi rfl rfl) ?_
            refine vp_part rfl rfl rfl hS rfl ?_ ?_
            ·
             intro hg157
             try simp only [dn] at hg157
             refine vp_take rfl rfl rfl hS (fun w st => (by exact y_faz (k := 1) rfl underlying63 rfl rfl sizeOf60 rfl)) ?_
             refine vp_take rfl rfl rfl hS (fun w st => (by exact y_ld st 1 rfl isAgg60 rfl rfl)) ?_
             refine vp_take rfl rfl rfl hS (fun w st => y_mv rfl) ?_
             refine vp_do rfl (e_call [_] rfl rfl call95 rfl (level_any _ _ (hs.kept st.chg)) ?_)
             rintro _ _ ⟨rfl, rfl⟩
             refine vp_next (by exact st) ?_; intro hS
             refine vp_take rfl rfl rfl hS (fun w st => y_leq rfl rfl) ?_
             refine vp_take rfl rfl rfl hS (fun w st => y_pickt rfl rfl) ?_
             refine vp_do rfl (e_callv [_, _] rfl rfl rfl call93 rfl (kidx_any _ (fun d hd l w hV hs => ih (szo y) (by have := mem_size hy; have := szo_kids e; omega) y rfl d hd l w hV hs) d hd _ _ _ _ (hV1.kept (Same.of_nil st.chg)) (hs.kept st.chg) _ (by exact cell_nth (st.res (i := 2) rfl) rfl)) ?_)
             rintro _ w ⟨rfl, cw⟩
             replace st := st.call0 cw
             refine vp_next (by exact st) ?_; intro hS
             refine vp_take rfl rfl rfl hS (fun w st => y_pickt rfl rfl) ?_
             refine vp_take rfl rfl rfl hS (fun w st => y_as rfl) ?_
             refine vp_end (vq_then (vc_keep [(4, _)] ⟨rfl, trivial⟩ (vc_ret (vq_block_ret (vq_then_ret ?_)))))
             refine vq_ret1 st (.inl rfl) results63 (.tmp rfl) ?_
             refine ⟨_, rfl, ?_⟩
             refine ⟨?_, st.chg⟩
             show Value.bool _ = Value.bool _
             congr 1
             clear st
             symm
             first
              | (rw [rightE_1 (e := e) (by assumption) hd]; clear hV hr hs ih; rw [Bool.eq_iff_iff]; simp_all <;> omega)
              | (rw [rightE_2 (e := e) (by assumption) hd]; clear hV hr hs ih; rw [Bool.eq_iff_iff]; simp_all <;> omega)
              | exact rightE_0 (e := e) (by assumption) (by assumption) (by assumption) (by assumption)
              | exact rightE_3n (e := e) (by assumption) (by first | exact .inl (by omega) | exact .inr (.inr (.inl (by assumption))) | exact .inr (.inr (.inr (by assumption))) | exact .inr (.inl (by simp [oneOp]; omega)))
              | exact rightE_3d (e := e) (by assumption) (by omega)
              | exact rightE_4n (e := e) (by assumption) (by first | exact .inl (by omega) | exact .inr (.inr (.inl (by assumption))) | exact .inr (.inr (.inr (by assumption))) | exact .inr (.inl (by assumption)))
              | (rw [rightE_3 (e := e) (by assumption) hd (one_form (by omega) hx), op_one.2 (by omega)]; first | rw [if_pos (by assumption)] | rw [if_neg (by assumption)]
                 first | (rw [rightE_big (e := x) (by omega)]; simp) | (clear hV hr hs ih hg hc0 hV0 hr0; simp_all))
              | (rw [rightE_4 (e := e) (by assumption) hd (two_form hk2 hx hy)]
                 clear hV hr hs ih hg hc0 hc1 hV0 hV1 hr0 hr1
                 first | rw [inn_f (x := x) (by assumption)] | rw [inn_n (x := x) (by assumption)]
                 first | rw [inn_t (x := y) (by assumption)] | rw [inn_n (x := y) (by assumption)] | skip
                 simp_all)
            ·
             intro hg157
             try simp only [dn] at hg157
             iterate 3 refine vp_skip rfl rfl rfl hS ?_
             refine vp_do rfl (e_skip rfl rfl (vp_next hS (fun hS => ?_)))
             refine vp_skip rfl rfl rfl hS ?_
             refine vp_take rfl rfl rfl hS (fun w st => y_pickf rfl rfl) ?_
             refine vp_do rfl (e_callv [_, _] rfl rfl rfl call93 rfl (kidx_any _ (fun d hd l w hV hs => ih (szo y) (by have := mem_size hy; have := szo_kids e; omega) y rfl d hd l w hV hs) d hd _ _ _ _ (hV1.kept (Same.of_nil st.chg)) (hs.kept st.chg) _ (by exact cell_nth (st.res (i := 2) rfl) rfl)) ?_)
             rintro _ w ⟨rfl, cw⟩
             replace st := st.call0 cw
             refine vp_next (by exact st) ?_; intro hS
             refine vp_take rfl rfl rfl hS (fun w st => y_pickt rfl rfl) ?_
             refine vp_take rfl rfl rfl hS (fun w st => y_as rfl) ?_
             refine vp_end (vq_then (vc_keep [(4, _)] ⟨rfl, trivial⟩ (vc_ret (vq_block_ret (vq_then_ret ?_)))))
             refine vq_ret1 st (.inl rfl) results63 (.tmp rfl) ?_
             refine ⟨_, rfl, ?_⟩
             refine ⟨?_, st.chg⟩
             show Value.bool _ = Value.bool _
             congr 1
             clear st
             symm
             first
              | (rw [rightE_1 (e := e) (by assumption) hd]; clear hV hr hs ih; rw [Bool.eq_iff_iff]; simp_all <;> omega)
              | (rw [rightE_2 (e := e) (by assumption) hd]; clear hV hr hs ih; rw [Bool.eq_iff_iff]; simp_all <;> omega)
              | exact rightE_0 (e := e) (by assumption) (by assumption) (by assumption) (by assumption)
              | exact rightE_3n (e := e) (by assumption) (by first | exact .inl (by omega) | exact .inr (.inr (.inl (by assumption))) | exact .inr (.inr (.inr (by assumption))) | exact .inr (.inl (by simp [oneOp]; omega)))
              | exact rightE_3d (e := e) (by assumption) (by omega)
              | exact rightE_4n (e := e) (by assumption) (by first | exact .inl (by omega) | exact .inr (.inr (.inl (by assumption))) | exact .inr (.inr (.inr (by assumption))) | exact .inr (.inl (by assumption)))
              | (rw [rightE_3 (e := e) (by assumption) hd (one_form (by omega) hx), op_one.2 (by omega)]; first | rw [if_pos (by assumption)] | rw [if_neg (by assumption)]
                 first | (rw [rightE_big (e := x) (by omega)]; simp) | (clear hV hr hs ih hg hc0 hV0 hr0; simp_all))
              | (rw [rightE_4 (e := e) (by assumption) hd (two_form hk2 hx hy)]
                 clear hV hr hs ih hg hc0 hc1 hV0 hV1 hr0 hr1
                 first | rw [inn_f (x := x) (by assumption)] | rw [inn_n (x := x) (by assumption)]
                 first | rw [inn_t (x := y) (by assumption)] | rw [inn_n (x := y) (by assumption)] | skip
                 simp_all)
           ·
            intro hg151
            try simp only [dn] at hg151
            iterate 9 refine vp_skip rfl rfl rfl hS ?_
            refine vp_do rfl (e_skip rfl rfl (vp_next hS (fun hS => ?_)))
            iterate 2 refine vp_skip rfl rfl rfl hS ?_
            refine vp_do rfl (e_skip rfl rfl (vp_next hS (fun hS => ?_)))
            refine vp_take rfl rfl rfl hS (fun w st => y_pickf rfl rfl) ?_
            refine vp_take rfl rfl rfl hS (fun w st => y_as rfl) ?_
            refine vp_end (vq_then (vc_keep [(4, _)] ⟨rfl, trivial⟩ (vc_ret (vq_block_ret (vq_then_ret ?_)))))
            refine vq_ret1 st (.inl rfl) results63 (.tmp rfl) ?_
            refine ⟨_, rfl, ?_⟩
            refine ⟨?_, st.chg⟩
            show Value.bool _ = Value.bool _
            congr 1
            clear st
            symm
            first
             | (rw [rightE_1 (e := e) (by assumption) hd]; clear hV hr hs ih; rw [Bool.eq_iff_iff]; simp_all <;> omega)
             | (rw [rightE_2 (e := e) (by assumption) hd]; clear hV hr hs ih; rw [Bool.eq_iff_iff]; simp_all <;> omega)
             | exact rightE_0 (e := e) (by assumption) (by assumption) (by assumption) (by assumption)
             | exact rightE_3n (e := e) (by assumption) (by first | exact .inl (by omega) | exact .inr (.inr (.inl (by assumption))) | exact .inr (.inr (.inr (by assumption))) | exact .inr (.inl (by simp [oneOp]; omega)))
             | exact rightE_3d (e := e) (by assumption) (by omega)
             | exact rightE_4n (e := e) (by assumption) (by first | exact .inl (by omega) | exact .inr (.inr (.inl (by assumption))) | exact .inr (.inr (.inr (by assumption))) | exact .inr (.inl (by assumption)))
             | (rw [rightE_3 (e := e) (by assumption) hd (one_form (by omega) hx), op_one.2 (by omega)]; first | rw [if_pos (by assumption)] | rw [if_neg (by assumption)]
                first | (rw [rightE_big (e := x) (by omega)]; simp) | (clear hV hr hs ih hg hc0 hV0 hr0; simp_all))
             | (rw [rightE_4 (e := e) (by assumption) hd (two_form hk2 hx hy)]
                clear hV hr hs ih hg hc0 hc1 hV0 hV1 hr0 hr1
                first | rw [inn_f (x := x) (by assumption)] | rw [inn_n (x := x) (by assumption)]
                first | rw [inn_t (x := y) (by assumption)] | rw [inn_n (x := y) (by assumption)] | skip
                simp_all)
    ·
     intro hc105
     try simp only [dn] at hc105
     refine vc_code_skip (vq_block (vq_then (vc_keep [] trivial (vc_seq (vc_region ?_)))))
     refine vc_y rfl rfl (y_as rfl) ?_
     refine vc_end (vq_then (vc_keep [(4, _)] ⟨rfl, trivial⟩ (vc_ret ?_)))
     refine vq_ret1 st (.inl rfl) results63 (.tmp rfl) ?_
     refine ⟨_, rfl, ?_⟩
     refine ⟨?_, st.chg⟩
     show Value.bool _ = Value.bool _
     congr 1
     clear st
     symm
     first
      | (rw [rightE_1 (e := e) (by assumption) hd]; clear hV hr hs ih; rw [Bool.eq_iff_iff]; simp_all <;> omega)
      | (rw [rightE_2 (e := e) (by assumption) hd]; clear hV hr hs ih; rw [Bool.eq_iff_iff]; simp_all <;> omega)
      | exact rightE_0 (e := e) (by assumption) (by assumption) (by assumption) (by assumption)
      | exact rightE_3n (e := e) (by assumption) (by first | exact .inl (by omega) | exact .inr (.inr (.inl (by assumption))) | exact .inr (.inr (.inr (by assumption))) | exact .inr (.inl (by simp [oneOp]; omega)))
      | exact rightE_3d (e := e) (by assumption) (by omega)
      | exact rightE_4n (e := e) (by assumption) (by first | exact .inl (by omega) | exact .inr (.inr (.inl (by assumption))) | exact .inr (.inr (.inr (by assumption))) | exact .inr (.inl (by assumption)))
      | (rw [rightE_3 (e := e) (by assumption) hd (one_form (by omega) hx), op_one.2 (by omega)]; first | rw [if_pos (by assumption)] | rw [if_neg (by assumption)]
         first | (rw [rightE_big (e := x) (by omega)]; simp) | (clear hV hr hs ih hg hc0 hV0 hr0; simp_all))
      | (rw [rightE_4 (e := e) (by assumption) hd (two_form hk2 hx hy)]
         clear hV hr hs ih hg hc0 hc1 hV0 hV1 hr0 hr1
         first | rw [inn_f (x := x) (by assumption)] | rw [inn_n (x := x) (by assumption)]
         first | rw [inn_t (x := y) (by assumption)] | rw [inn_n (x := y) (by assumption)] | skip
         simp_all)

end
end Go.Proofs.YtnmhlpnapgojjaaDoor

