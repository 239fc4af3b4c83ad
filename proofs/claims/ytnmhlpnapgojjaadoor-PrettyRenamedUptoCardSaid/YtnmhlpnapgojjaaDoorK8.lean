/- A part of the proof: contracts of functions and plain laws; each theorem says its own conditions. -/
import Derived.Test.YtnmhlpnapgojjaaDoorK4
import Derived.Test.YtnmhlpnapgojjaaDoorPC
import Derived.Test.YtnmhlpnapgojjaaDoorK2
import Derived.Test.YtnmhlpnapgojjaaDoorK6
namespace Go.Proofs.YtnmhlpnapgojjaaDoor
open Go.RowKit Sx LexS _root_.Go.Proofs.Tryd
set_option linter.unusedVariables false
set_option linter.unusedSimpArgs false
section
variable {S : Nat → Prop}

set_option maxHeartbeats 1000000 in
theorem decls_any (ds : List Dc) (oa : Option Addr) (cap : Nat) (b : Bool) (w : World) (hD : DcRow w S oa ds) (hl : ds.length ≤ maxLen) : Ret Tryd.prog 46 [.slice oa ds.length cap, .bool b] w fun v w' => v = .bool (ds.all (dcOk b)) ∧ Chg [] w w' := by
 refine ret_of [_, _] func46 rfl ntmps46 rfl ?_
 have st := St.init w []
 obtain ⟨w0, rfl⟩ : ∃ w0, w0 = w := ⟨_, rfl⟩
 unfold maxLen at hl
 refine vc_seq (vc_region ?_)
 refine vc_y rfl rfl (y_as rfl) ?_
 refine vc_end (vq_then (vc_keep [(0, _), (1, _)] ⟨rfl, rfl, trivial⟩ (vc_seq (vc_seq (vc_region ?_)))))
 refine vc_y rfl rfl (y_mv rfl) ?_
 refine vc_y rfl rfl (y_lensl rfl underlying22) ?_
 refine vc_y rfl rfl (y_mv rfl) ?_
 refine vc_end (vq_then (vc_keep [(1, _), (7, _), (8, _), (9, _)] ⟨rfl, rfl, rfl, rfl, trivial⟩ (vc_block ?_)))
 refine vc_loop (w0 := w0) (M := []) (fun (j : Nat) => [(1, .bool b), (7, .slice oa ds.length cap), (8, .int .i64 (ds.length : Int)), (9, .int .i64 (j : Int))]) (fun _ => []) (fun j _ => j ≤ ds.length ∧ (ds.take j).all (dcOk b) = true) (fun j => ds.length - j) 0 ⟨rfl, rfl, rfl, rfl, trivial⟩ st ⟨by omega, by simp⟩ ?_
 rintro j w ⟨hj, hall⟩ st
 refine vc_seq (vc_region ?_)
 refine vc_y rfl rfl (y_lss rfl rfl) ?_
 refine vc_end (vq_then (vc_keep [(1, _), (7, _), (8, _), (9, _), (10, _)] ⟨rfl, rfl, rfl, rfl, rfl, trivial⟩ (vc_seq ?_)))
 refine vc_ifs rfl ?_ ?_
 ·
  intro hc10
  try simp only [dn] at hc10
  obtain ⟨x, hx⟩ : ∃ x, ds[j]? = some x := ⟨_, List.getElem?_eq_getElem (by omega)⟩
  obtain ⟨gb, go, rfl, hgS, hgl, hg⟩ := DcRow.at hD (by omega)
  have hc := hg j x hx
  refine vc_code_skip (vq_then (vc_keep [(1, _), (7, _), (8, _), (9, _)] ⟨rfl, rfl, rfl, rfl, trivial⟩ (vc_seq (vc_block (vc_seq (vc_region ?_))))))
  refine vc_y rfl rfl ((by exact y_ia (k := j) rfl rfl underlying22 sizeOf67 rfl (by omega))) ?_
  refine vc_y rfl rfl ((by exact y_ldca (dcL x) rfl isAgg67 sizeOf67 rfl (fun i v hi => st.chg.cell (hc i v hi) (by simp)))) ?_
  refine vc_e (e_al (l := [_, _, _]) st rfl rfl zeroValue67 rfl ?_)
  intro b6 w hb6 st
  first
  | refine vc_e (e_sts (vs := [_, _, _]) st 0 rfl rfl rfl rfl rfl sizeOf67 rfl rfl (by first | (right; assumption) | (left; simp)) ?_)
  intro w st; dsimp only [setNth, wr] at st
  refine vc_end (vq_then (vc_keep [(1, _), (6, _), (7, _), (8, _), (9, _)] ⟨rfl, rfl, rfl, rfl, rfl, trivial⟩ (vc_seq (vc_region ?_))))
  refine vc_y rfl rfl (y_fa0 rfl underlying67 rfl rfl sizeOf9 rfl) ?_
  refine vc_y rfl rfl ((by exact y_ld st 0 rfl isAgg9 rfl rfl)) ?_
  refine vc_e (e_call [_] rfl rfl call36 rfl (name_any _ _) ?_)
  rintro _ _ ⟨rfl, rfl⟩
  refine vc_y rfl rfl (y_not rfl) ?_
  refine vc_e (e_mvb rfl rfl rfl ?_ ?_)
  ·
   intro hg17
   try simp only [dn] at hg17
   iterate 6 refine vc_e (e_skip rfl rfl ?_)
   refine vc_y rfl rfl (y_pickt rfl rfl) ?_
   refine vc_y rfl rfl (y_mv rfl) ?_
   iterate 7 refine vc_e (e_skip rfl rfl ?_)
   refine vc_y rfl rfl (y_pickt rfl rfl) ?_
   refine vc_end (vq_then (vc_keep [(1, _), (7, _), (8, _), (9, _), (33, _)] ⟨rfl, rfl, rfl, rfl, rfl, trivial⟩ ?_))
   refine vc_ift rfl ?_
   refine vc_seq (vc_region ?_)
   refine vc_y rfl rfl (y_as rfl) ?_
   refine vc_end (vq_then (vc_keep [(4, _)] ⟨rfl, trivial⟩ (vc_ret (vq_block_ret (vq_then_ret (vq_then_ret (vq_block_ret (vq_then_ret ?_))))))))
   refine vq_ret1 st (.inl rfl) results46 (.tmp rfl) ?_
   refine ⟨_, rfl, ?_⟩
   refine ⟨?_, st.chg⟩
   first
    | rw [all_end hall (by omega)]
    | (rw [all_no' (p := dcOk b) hx (by clear st hc hg hD; unfold dcOk; cases b <;> simp_all)])
  ·
   intro hg17
   try simp only [dn] at hg17
   refine vc_y rfl rfl (y_mv rfl) ?_
   refine vc_e (e_mvb rfl rfl rfl ?_ ?_)
   ·
    intro hg19
    try simp only [dn] at hg19
    refine vc_y rfl rfl ((by exact y_faz (k := 1) rfl underlying67 rfl rfl sizeOf2 rfl)) ?_
    refine vc_y rfl rfl ((by exact y_ld st 0 rfl isAgg2 rfl rfl)) ?_
    refine vc_y rfl rfl (y_eqi rfl rfl) ?_
    refine vc_y rfl rfl (y_pickt rfl rfl) ?_
    refine vc_y rfl rfl (y_pickf rfl rfl) ?_
    refine vc_e (e_mvb rfl rfl rfl ?_ ?_)
    ·
     intro hg25
     try simp only [dn] at hg25
     iterate 7 refine vc_e (e_skip rfl rfl ?_)
     refine vc_y rfl rfl (y_pickt rfl rfl) ?_
     refine vc_end (vq_then (vc_keep [(1, _), (7, _), (8, _), (9, _), (33, _)] ⟨rfl, rfl, rfl, rfl, rfl, trivial⟩ ?_))
     refine vc_ift rfl ?_
     refine vc_seq (vc_region ?_)
     refine vc_y rfl rfl (y_as rfl) ?_
     refine vc_end (vq_then (vc_keep [(4, _)] ⟨rfl, trivial⟩ (vc_ret (vq_block_ret (vq_then_ret (vq_then_ret (vq_block_ret (vq_then_ret ?_))))))))
     refine vq_ret1 st (.inl rfl) results46 (.tmp rfl) ?_
     refine ⟨_, rfl, ?_⟩
     refine ⟨?_, st.chg⟩
     first
      | rw [all_end hall (by omega)]
      | (rw [all_no' (p := dcOk b) hx (by clear st hc hg hD; unfold dcOk; cases b <;> simp_all)])
    ·
     intro hg25
     try simp only [dn] at hg25
     refine vc_y rfl rfl (y_mv rfl) ?_
     refine vc_y rfl rfl (y_not rfl) ?_
     refine vc_e (e_mvb rfl rfl rfl ?_ ?_)
     ·
      intro hg28
      try simp only [dn] at hg28
      refine vc_y rfl rfl ((by exact y_faz (k := 1) rfl underlying67 rfl rfl sizeOf2 rfl)) ?_
      refine vc_y rfl rfl ((by exact y_ld st 0 rfl isAgg2 rfl rfl)) ?_
      refine vc_y rfl rfl (y_nei rfl rfl) ?_
      refine vc_y rfl rfl (y_pickt rfl rfl) ?_
      refine vc_y rfl rfl (y_pickf rfl rfl) ?_
      refine vc_end (vq_then (vc_keep [(1, _), (7, _), (8, _), (9, _), (33, _)] ⟨rfl, rfl, rfl, rfl, rfl, trivial⟩ ?_))
      refine vc_ifs rfl ?_ ?_
      ·
       intro hc33
       try simp only [dn] at hc33
       refine vc_seq (vc_region ?_)
       refine vc_y rfl rfl (y_as rfl) ?_
       refine vc_end (vq_then (vc_keep [(4, _)] ⟨rfl, trivial⟩ (vc_ret (vq_block_ret (vq_then_ret (vq_then_ret (vq_block_ret (vq_then_ret ?_))))))))
       refine vq_ret1 st (.inl rfl) results46 (.tmp rfl) ?_
       refine ⟨_, rfl, ?_⟩
       refine ⟨?_, st.chg⟩
       first
        | rw [all_end hall (by omega)]
        | (rw [all_no' (p := dcOk b) hx (by clear st hc hg hD; unfold dcOk; cases b <;> simp_all)])
      ·
       intro hc33
       try simp only [dn] at hc33
       refine vc_code_skip (vq_block (vq_then (vc_keep [(1, _), (7, _), (8, _), (9, _)] ⟨rfl, rfl, rfl, rfl, trivial⟩ (vc_region ?_))))
       refine vc_y rfl rfl (y_add rfl rfl (by omega : _ = ((j + 1 : Nat) : Int)) (by omega) (by omega)) ?_
       refine vc_y rfl rfl (y_mv rfl) ?_
       refine vc_end ?_
       refine vq_again (j + 1)  ⟨rfl, rfl, rfl, rfl, trivial⟩ (st.drop (by repeat (first | exact sl0 | apply sl1 | apply sl2))) ?_ ?_
       ·
        exact ⟨by omega, all_take' hall hx (by clear st hc hg hD; unfold dcOk; cases b <;> simp_all)⟩
       ·
        omega
     ·
      intro hg28
      try simp only [dn] at hg28
      iterate 3 refine vc_e (e_skip rfl rfl ?_)
      iterate 2 refine vc_y rfl rfl (y_pickf rfl rfl) ?_
      refine vc_end (vq_then (vc_keep [(1, _), (7, _), (8, _), (9, _), (33, _)] ⟨rfl, rfl, rfl, rfl, rfl, trivial⟩ ?_))
      refine vc_iff rfl ?_
      refine vc_code_skip (vq_block (vq_then (vc_keep [(1, _), (7, _), (8, _), (9, _)] ⟨rfl, rfl, rfl, rfl, trivial⟩ (vc_region ?_))))
      refine vc_y rfl rfl (y_add rfl rfl (by omega : _ = ((j + 1 : Nat) : Int)) (by omega) (by omega)) ?_
      refine vc_y rfl rfl (y_mv rfl) ?_
      refine vc_end ?_
      refine vq_again (j + 1)  ⟨rfl, rfl, rfl, rfl, trivial⟩ (st.drop (by repeat (first | exact sl0 | apply sl1 | apply sl2))) ?_ ?_
      ·
       exact ⟨by omega, all_take' hall hx (by clear st hc hg hD; unfold dcOk; cases b <;> simp_all)⟩
      ·
       omega
   ·
    intro hg19
    try simp only [dn] at hg19
    iterate 3 refine vc_e (e_skip rfl rfl ?_)
    iterate 2 refine vc_y rfl rfl (y_pickf rfl rfl) ?_
    iterate 2 refine vc_y rfl rfl (y_mv rfl) ?_
    refine vc_y rfl rfl (y_not rfl) ?_
    refine vc_e (e_mvb rfl rfl rfl ?_ ?_)
    ·
     intro hg28
     try simp only [dn] at hg28
     refine vc_y rfl rfl ((by exact y_faz (k := 1) rfl underlying67 rfl rfl sizeOf2 rfl)) ?_
     refine vc_y rfl rfl ((by exact y_ld st 0 rfl isAgg2 rfl rfl)) ?_
     refine vc_y rfl rfl (y_nei rfl rfl) ?_
     refine vc_y rfl rfl (y_pickt rfl rfl) ?_
     refine vc_y rfl rfl (y_pickf rfl rfl) ?_
     refine vc_end (vq_then (vc_keep [(1, _), (7, _), (8, _), (9, _), (33, _)] ⟨rfl, rfl, rfl, rfl, rfl, trivial⟩ ?_))
     refine vc_ifs rfl ?_ ?_
     ·
      intro hc33
      try simp only [dn] at hc33
      refine vc_seq (vc_region ?_)
      refine vc_y rfl rfl (y_as rfl) ?_
      refine vc_end (vq_then (vc_keep [(4, _)] ⟨rfl, trivial⟩ (vc_ret (vq_block_ret (vq_then_ret (vq_then_ret (vq_block_ret (vq_then_ret ?_))))))))
      refine vq_ret1 st (.inl rfl) results46 (.tmp rfl) ?_
      refine ⟨_, rfl, ?_⟩
      refine ⟨?_, st.chg⟩
      first
       | rw [all_end hall (by omega)]
       | (rw [all_no' (p := dcOk b) hx (by clear st hc hg hD; unfold dcOk; cases b <;> simp_all)])
     ·
      intro hc33
      try simp only [dn] at hc33
      refine vc_code_skip (vq_block (vq_then (vc_keep [(1, _), (7, _), (8, _), (9, _)] ⟨rfl, rfl, rfl, rfl, trivial⟩ (vc_region ?_))))
      refine vc_y rfl rfl (y_add rfl rfl (by omega : _ = ((j + 1 : Nat) : Int)) (by omega) (by omega)) ?_
      refine vc_y rfl rfl (y_mv rfl) ?_
      refine vc_end ?_
      refine vq_again (j + 1)  ⟨rfl, rfl, rfl, rfl, trivial⟩ (st.drop (by repeat (first | exact sl0 | apply sl1 | apply sl2))) ?_ ?_
      ·
       exact ⟨by omega, all_take' hall hx (by clear st hc hg hD; unfold dcOk; cases b <;> simp_all)⟩
      ·
       omega
    ·
     intro hg28
     try simp only [dn] at hg28
     iterate 3 refine vc_e (e_skip rfl rfl ?_)
     iterate 2 refine vc_y rfl rfl (y_pickf rfl rfl) ?_
     refine vc_end (vq_then (vc_keep [(1, _), (7, _), (8, _), (9, _), (33, _)] ⟨rfl, rfl, rfl, rfl, rfl, trivial⟩ ?_))
     refine vc_iff rfl ?_
     refine vc_code_skip (vq_block (vq_then (vc_keep [(1, _), (7, _), (8, _), (9, _)] ⟨rfl, rfl, rfl, rfl, trivial⟩ (vc_region ?_))))
     refine vc_y rfl rfl (y_add rfl rfl (by omega : _ = ((j + 1 : Nat) : Int)) (by omega) (by omega)) ?_
     refine vc_y rfl rfl (y_mv rfl) ?_
     refine vc_end ?_
     refine vq_again (j + 1)  ⟨rfl, rfl, rfl, rfl, trivial⟩ (st.drop (by repeat (first | exact sl0 | apply sl1 | apply sl2))) ?_ ?_
     ·
      exact ⟨by omega, all_take' hall hx (by clear st hc hg hD; unfold dcOk; cases b <;> simp_all)⟩
     ·
      omega
 ·
  intro hc10
  try simp only [dn] at hc10
  refine vc_exit (vq_then_exit (vq_then_exit (vq_block_exit (vq_then (vc_keep [] trivial (vc_seq (vc_region ?_)))))))
  refine vc_y rfl rfl (y_as rfl) ?_
  refine vc_end (vq_then (vc_keep [(4, _)] ⟨rfl, trivial⟩ (vc_ret ?_)))
  refine vq_ret1 st (.inl rfl) results46 (.tmp rfl) ?_
  refine ⟨_, rfl, ?_⟩
  refine ⟨?_, st.chg⟩
  first
   | rw [all_end hall (by omega)]
   | (rw [all_no' (p := dcOk b) hx (by clear st hc hg hD; unfold dcOk; cases b <;> simp_all)])

theorem namedk_any (l : List UInt8) (b : Bool) (w : World) : Ret Tryd.prog 78 [str l, .bool b] w fun v w' => v = .bool (nmOk b l) ∧ w' = w := named_any l b w

theorem shapes_any (k : Int) (hk : u8 k) (w : World) : Ret Tryd.prog 77 [.int .u8 k] w fun v w' => v = .tuple #[.agg (shpL k).toArray, .bool (decide (1 ≤ k ∧ k ≤ 7))] ∧ Chg [] w w' := by
 refine ret_of [_] func77 rfl ntmps77 rfl ?_
 have st := St.init w []
 refine vc_seq (vc_region ?_)
 refine vc_e (e_al (l := [_, _, _, _, _]) st rfl rfl zeroValue104 rfl ?_)
 intro b2 w hb2 st
 refine vc_y rfl rfl (y_as rfl) ?_
 refine vc_end (vq_then (vc_keep [(0, _), (2, _)] ⟨rfl, rfl, trivial⟩ (vc_seq (vc_region ?_))))
 refine vc_y rfl rfl (y_bld (.agg #[_, _, _, _, _]) [(0, _), (2, _)] rfl (fun w => by simp [Instr.build, go_sem] <;> repeat' constructor)) ?_
 refine vc_y rfl rfl (y_bld (.agg #[_, _, _, _, _]) [(0, _), (1, _), (2, _)] rfl (fun w => by simp [Instr.build, go_sem] <;> repeat' constructor)) ?_
 refine vc_y rfl rfl (y_bld (.agg #[_, _, _, _, _]) [(2, _), (3, _), (4, _)] rfl (fun w => by simp [Instr.build, go_sem] <;> repeat' constructor)) ?_
 refine vc_y rfl rfl (y_bld (.agg #[_, _, _, _, _]) [(2, _), (3, _)] rfl (fun w => by simp [Instr.build, go_sem] <;> repeat' constructor)) ?_
 refine vc_y rfl rfl (y_bld (.agg #[_, _, _, _, _]) [(0, _), (3, _)] rfl (fun w => by simp [Instr.build, go_sem] <;> repeat' constructor)) ?_
 refine vc_y rfl rfl (y_bld (.agg #[_, _, _, _, _]) [(2, _)] rfl (fun w => by simp [Instr.build, go_sem] <;> repeat' constructor)) ?_
 refine vc_y rfl rfl (y_bld (.agg #[_, _, _, _, _]) [] rfl (fun w => by simp [Instr.build, go_sem] <;> repeat' constructor)) ?_
 refine vc_y rfl rfl (y_bld (.agg #[_, _, _, _, _, _, _, _, _, _, _, _, _, _, _, _, _, _, _, _, _, _, _, _, _, _, _, _, _, _, _, _, _, _, _, _, _, _, _, _]) [(1, _), (2, _), (3, _), (4, _), (5, _), (6, _), (7, _)] rfl (fun w => by simp [Instr.build, go_sem] <;> repeat' constructor)) ?_
 refine vc_e (e_al (l := [_, _, _, _, _, _, _, _, _, _, _, _, _, _, _, _, _, _, _, _, _, _, _, _, _, _, _, _, _, _, _, _, _, _, _, _, _, _, _, _]) st rfl rfl zeroValue144 rfl ?_)
 intro b4 w hb4 st
 refine vc_e (e_sts (vs := [_, _, _, _, _, _, _, _, _, _, _, _, _, _, _, _, _, _, _, _, _, _, _, _, _, _, _, _, _, _, _, _, _, _, _, _, _, _, _, _]) st 0 rfl rfl rfl rfl rfl sizeOf144 rfl rfl (by first | (right; assumption) | (left; simp)) ?_)
 intro w st; dsimp only [setNth, wr] at st
 refine vc_end (vq_then (vc_keep [(0, _), (2, _), (4, _)] ⟨rfl, rfl, rfl, trivial⟩ (vc_seq (vc_seq (vc_region ?_)))))
 refine vc_y rfl rfl (y_mv rfl) ?_
 refine vc_y rfl rfl (y_eqi rfl rfl) ?_
 refine vc_e (e_mvb rfl rfl rfl ?_ ?_)
 ·
  intro hg15
  try simp only [dn] at hg15
  iterate 3 refine vc_e (e_skip rfl rfl ?_)
  refine vc_y rfl rfl (y_pickt rfl rfl) ?_
  refine vc_end (vq_then (vc_keep [(0, _), (2, _), (4, _), (19, _)] ⟨rfl, rfl, rfl, rfl, trivial⟩ ?_))
  refine vc_ift rfl ?_
  refine vc_seq (vc_region ?_)
  refine vc_y rfl rfl (y_bld (.agg #[_, _, _, _, _]) [] rfl (fun w => by simp [Instr.build, go_sem] <;> repeat' constructor)) ?_
  refine vc_e (e_sts (vs := [_, _, _, _, _]) st 1 rfl rfl rfl rfl rfl sizeOf104 rfl rfl (by first | (right; assumption) | (left; simp)) ?_)
  intro w st; dsimp only [setNth, wr] at st
  refine vc_y rfl rfl (y_as rfl) ?_
  refine vc_end (vq_then (vc_keep [(2, _), (3, _)] ⟨rfl, rfl, trivial⟩ (vc_ret (vq_then_ret ?_))))
  refine vq_ret2 st (.inl rfl) results77 (by exact .cell 1 rfl rfl isAgg104 sizeOf104) (.tmp rfl) ?_
  refine ⟨_, rfl, ?_⟩
  refine ⟨?_, st.chg⟩
  have e1 : hasN k = false := by unfold hasN; simp; omega
  have e2 : decide (k = 2) = false := by simp; omega
  have e3 : hasE k = false := by unfold hasE; simp; omega
  have e4 : hasB k = false := by unfold hasB; simp; omega
  have e5 : decide (k = 3) = false := by simp; omega
  have e6 : decide (1 ≤ k ∧ k ≤ 7) = false := by simp; omega
  simp only [shpL, e1, e2, e3, e4, e5, e6]
 ·
  intro hg15
  try simp only [dn] at hg15
  refine vc_y rfl rfl (y_mv rfl) ?_
  refine vc_y rfl rfl (y_cvi rfl underlying3 underlying68 (wrap_i64 k (by have h1 := hk.1; have h2 := hk.2; omega) : _ = k)) ?_
  refine vc_y rfl rfl (y_geq rfl rfl) ?_
  refine vc_y rfl rfl (y_pickf rfl rfl) ?_
  refine vc_end (vq_then (vc_keep [(0, _), (2, _), (4, _), (19, _)] ⟨rfl, rfl, rfl, rfl, trivial⟩ ?_))
  refine vc_ifs rfl ?_ ?_
  ·
   intro hc19
   try simp only [dn] at hc19
   refine vc_seq (vc_region ?_)
   refine vc_y rfl rfl (y_bld (.agg #[_, _, _, _, _]) [] rfl (fun w => by simp [Instr.build, go_sem] <;> repeat' constructor)) ?_
   refine vc_e (e_sts (vs := [_, _, _, _, _]) st 1 rfl rfl rfl rfl rfl sizeOf104 rfl rfl (by first | (right; assumption) | (left; simp)) ?_)
   intro w st; dsimp only [setNth, wr] at st
   refine vc_y rfl rfl (y_as rfl) ?_
   refine vc_end (vq_then (vc_keep [(2, _), (3, _)] ⟨rfl, rfl, trivial⟩ (vc_ret (vq_then_ret ?_))))
   refine vq_ret2 st (.inl rfl) results77 (by exact .cell 1 rfl rfl isAgg104 sizeOf104) (.tmp rfl) ?_
   refine ⟨_, rfl, ?_⟩
   refine ⟨?_, st.chg⟩
   have e1 : hasN k = false := by unfold hasN; simp; omega
   have e2 : decide (k = 2) = false := by simp; omega
   have e3 : hasE k = false := by unfold hasE; simp; omega
   have e4 : hasB k = false := by unfold hasB; simp; omega
   have e5 : decide (k = 3) = false := by simp; omega
   have e6 : decide (1 ≤ k ∧ k ≤ 7) = false := by simp; omega
   simp only [shpL, e1, e2, e3, e4, e5, e6]
  ·
   intro hc19
   try simp only [dn] at hc19
   refine vc_code_skip (vq_then (vc_keep [(0, _), (2, _), (4, _)] ⟨rfl, rfl, rfl, trivial⟩ (vc_seq (vc_region ?_))))
   obtain ⟨m, rfl⟩ : ∃ m : Nat, k = (m : Int) := ⟨k.toNat, by have := hk.1; omega⟩
   refine vc_y rfl rfl (y_mv rfl) ?_
   refine vc_y rfl rfl (y_iaa (k := m) rfl rfl underlying144 sizeOf104 rfl (by omega)) ?_
   have hq := tab_at (m := m) (st.res (i := 0) rfl) (by omega)
   refine vc_y rfl rfl ((by exact y_ldca (shpL m) rfl isAgg104 sizeOf104 rfl (tab_at (st.res (i := 0) rfl) (by omega)))) ?_
   refine vc_e (e_sts (vs := [_, _, _, _, _]) st 1 rfl rfl rfl rfl rfl sizeOf104 rfl rfl (by first | (right; assumption) | (left; simp)) ?_)
   intro w st; dsimp only [setNth, wr] at st
   refine vc_y rfl rfl (y_as rfl) ?_
   refine vc_end (vq_then (vc_keep [(2, _), (3, _)] ⟨rfl, rfl, trivial⟩ (vc_ret ?_)))
   refine vq_ret2 st (.inl rfl) results77 (by exact .cell 1 rfl rfl isAgg104 sizeOf104) (.tmp rfl) ?_
   refine ⟨_, rfl, ?_⟩
   refine ⟨?_, st.chg⟩
   have e6 : decide (1 ≤ (m : Int) ∧ (m : Int) ≤ 7) = true := by simp; omega
   rw [e6]

set_option maxHeartbeats 4000000 in
theorem stmts_any : ∀ (n : Nat) (ss : List Sm), szo ss = n → ∀ (d : Nat), d ≤ 65 → (ss.length = 0 ∨ d ≤ 64) → ∀ (oa : Option Addr) (cap : Nat) (w : World), SmRow w S oa ss → OkSs ss → Sig w → Ret Tryd.prog 47 [.slice oa ss.length cap, .int .i64 (d : Int)] w fun v w' => v = .bool (rightSs ss d) ∧ Chg [] w w' := by
 intro n
 refine Nat.strongRecOn n fun n ih => ?_
 intro ss hn d hd0 hd oa cap w hr hok hsg
 subst hn
 have hssl := hok.1
 refine ret_of [_, _] func47 rfl ntmps47 rfl ?_
 have st := St.init w []
 obtain ⟨w0, rfl⟩ : ∃ w0, w0 = w := ⟨_, rfl⟩
 refine vc_seq (vc_region ?_)
 refine vc_y rfl rfl (y_as rfl) ?_
 refine vc_end (vq_then (vc_keep [(0, _), (1, _)] ⟨rfl, rfl, trivial⟩ (vc_seq (vc_seq (vc_region ?_)))))
 refine vc_y rfl rfl (y_mv rfl) ?_
 refine vc_y rfl rfl (y_lensl rfl underlying40) ?_
 refine vc_y rfl rfl (y_mv rfl) ?_
 refine vc_end (vq_then (vc_keep [(1, _), (9, _), (10, _), (11, _)] ⟨rfl, rfl, rfl, rfl, trivial⟩ (vc_block ?_)))
 refine vc_loop (w0 := w0) (M := []) (fun (j : Nat) => [(1, .int .i64 (d : Int)), (9, .slice oa ss.length cap), (10, .int .i64 (ss.length : Int)), (11, .int .i64 (j : Int))]) (fun _ => []) (fun j _ => j ≤ ss.length ∧ (ss.take j).all (rightS · d) = true) (fun j => ss.length - j) 0 ⟨rfl, rfl, rfl, rfl, trivial⟩ st ⟨by omega, by simp⟩ ?_
 rintro j w ⟨hj, hall⟩ st
 refine vc_seq (vc_region ?_)
 refine vc_y rfl rfl (y_lss rfl rfl) ?_
 refine vc_end (vq_then (vc_keep [(1, _), (9, _), (10, _), (11, _), (12, _)] ⟨rfl, rfl, rfl, rfl, rfl, trivial⟩ (vc_seq ?_)))
 refine vc_ifs rfl ?_ ?_
 ·
  intro hc12
  try simp only [dn] at hc12
  obtain ⟨s, hsj⟩ : ∃ s, ss[j]? = some s := ⟨_, List.getElem?_eq_getElem (by omega)⟩
  obtain ⟨gb, go, rfl, hgS, hgl, hg⟩ := SmRow.at hr (by omega)
  obtain ⟨oe, ob, ol, ce, cb, cl, hsV, hse, hsb, hsl, hc⟩ := hg j s hsj
  have hks := hok.2 j s hsj
  have hz := mem_size hsj
  have hB : szo s.body < szo ss := by have := (sm_kids s).1; omega
  have hL : szo s.els < szo ss := by have := (sm_kids s).2; omega
  have hd64 : d ≤ 64 := by omega
  refine vc_code_skip (vq_then (vc_keep [(1, _), (9, _), (10, _), (11, _)] ⟨rfl, rfl, rfl, rfl, trivial⟩ (vc_seq (vc_block (vc_seq (vc_region ?_))))))
  refine vc_y rfl rfl ((by exact y_ia (k := j) rfl rfl underlying40 sizeOf70 rfl (by omega))) ?_
  refine vc_y rfl rfl ((by exact y_ldca (smL s oe ob ol ce cb cl) rfl isAgg70 sizeOf70 rfl (fun i v hi => st.chg.cell (hc i v hi) (by simp)))) ?_
  refine vc_e (e_al (l := [_, _, _, _, _, _, _]) st rfl rfl zeroValue70 rfl ?_)
  intro b6 w hb6 st
  refine vc_e (e_sts (vs := [_, _, _, _, _, _, _]) st 0 rfl rfl rfl rfl rfl sizeOf70 rfl rfl (by first | (right; assumption) | (left; simp)) ?_)
  intro w st; dsimp only [setNth, wr] at st
  refine vc_end (vq_then (vc_keep [(1, _), (6, _), (9, _), (10, _), (11, _)] ⟨rfl, rfl, rfl, rfl, rfl, trivial⟩ (vc_seq (vc_region ?_))))
  refine vc_y rfl rfl (y_fa0 rfl underlying70 rfl rfl sizeOf68 rfl) ?_
  refine vc_y rfl rfl ((by exact y_ld st 0 rfl isAgg68 rfl rfl)) ?_
  refine vc_e (e_call [_] rfl rfl call77 rfl (shapes_any s.k hks.k _) ?_)
  rintro _ w ⟨rfl, cw⟩
  replace st := st.call0 cw
  refine vc_y rfl rfl (y_mv rfl) ?_
  iterate 2 refine vc_y rfl rfl (y_ext rfl rfl) ?_
  refine vc_e (e_al (l := [_, _, _, _, _]) st rfl rfl zeroValue104 rfl ?_)
  intro b7 w hb7 st
  refine vc_e (e_sts (vs := [_, _, _, _, _]) st 0 rfl rfl rfl rfl rfl sizeOf104 rfl rfl (by first | (right; assumption) | (left; simp)) ?_)
  intro w st; dsimp only [setNth, wr] at st
  refine vc_y rfl rfl (y_as rfl) ?_
  refine vc_end (vq_then (vc_keep [(1, _), (6, _), (7, _), (8, _), (9, _), (10, _), (11, _)] ⟨rfl, rfl, rfl, rfl, rfl, rfl, rfl, trivial⟩ ?_))
  refine vc_cut (w0 := w0) (M := []) (fun (_ : Unit) => [(1, .int .i64 (d : Int)), (6, .pointer (some ⟨b6, 0, none⟩)), (7, .pointer (some ⟨b7, 0, none⟩)), (9, .slice (some ⟨gb, go, none⟩) ss.length cap), (10, .int .i64 (ss.length : Int)), (11, .int .i64 (j : Int))]) (fun _ => [.blk b7 (.cells (shpL s.k).toArray 104 (0, 0)), .blk b6 (.cells (smL s oe ob ol ce cb cl).toArray 70 (0, 0))]) (fun _ _ => (1 ≤ s.k ∧ s.k ≤ 7) ∧ nmOk (hasN s.k) s.nm = true ∧ nmOk (decide (s.k = 2)) s.other = true ∧ (hasB s.k = true ∨ s.body.length = 0) ∧ (s.k = 3 ∨ s.els.length = 0)) ?_ ?_
  ·
   refine vc_seq (vc_region ?_)
   refine vc_y rfl rfl (y_mv rfl) ?_
   refine vc_y rfl rfl (y_not rfl) ?_
   refine vc_e (e_mvb rfl rfl rfl ?_ ?_)
   ·
    intro hg23
    try simp only [dn] at hg23
    iterate 6 refine vc_e (e_skip rfl rfl ?_)
    refine vc_y rfl rfl (y_pickt rfl rfl) ?_
    refine vc_y rfl rfl (y_mv rfl) ?_
    iterate 6 refine vc_e (e_skip rfl rfl ?_)
    refine vc_y rfl rfl (y_pickt rfl rfl) ?_
    refine vc_y rfl rfl (y_mv rfl) ?_
    iterate 9 refine vc_e (e_skip rfl rfl ?_)
    refine vc_y rfl rfl (y_pickt rfl rfl) ?_
    refine vc_y rfl rfl (y_mv rfl) ?_
    iterate 9 refine vc_e (e_skip rfl rfl ?_)
    refine vc_y rfl rfl (y_pickt rfl rfl) ?_
    refine vc_end (vq_then (vc_keep [(1, _), (6, _), (7, _), (9, _), (10, _), (11, _), (60, _)] ⟨rfl, rfl, rfl, rfl, rfl, rfl, rfl, trivial⟩ ?_))
    refine vc_ift rfl ?_
    refine vc_seq (vc_region ?_)
    refine vc_y rfl rfl (y_as rfl) ?_
    refine vc_end (vq_then (vc_keep [(4, _)] ⟨rfl, trivial⟩ (vc_ret (vq_then_ret (vq_block_ret (vq_then_ret (vq_then_ret (vq_block_ret (vq_then_ret ?_)))))))))
    refine vq_ret1 st (.inl rfl) results47 (.tmp rfl) ?_
    refine ⟨_, rfl, ?_⟩
    refine ⟨?_, st.chg⟩
    first
     | rw [rightSs_eq, all_end hall (by omega)]
     | (refine rightS_no hsj fun hR => ?_
        obtain ⟨r1, r2, r3, r4, r5, r6, r7, r8, r9⟩ := rightS_iff.1 hR
        clear st hsV hse hsb hsl hc hg hr ih hok hks hall
        first
          | omega
          | (simp_all; done)
          | (simp_all; omega)
          | (have hE : hasE s.k = true := by assumption
             rw [hE] at r4
             first
               | (rw [rightX_t (by omega) hx] at r4; simp_all; done)
               | (rw [rightX_n (by omega)] at r4; cases r4))
          | (have hE : hasE s.k = false := by assumption
             rw [hE, rightX_f, decide_eq_true_eq] at r4; omega))
   ·
    intro hg23
    try simp only [dn] at hg23
    refine vc_y rfl rfl ((by exact y_faz (k := 1) rfl underlying70 rfl rfl sizeOf9 rfl)) ?_
    refine vc_y rfl rfl ((by exact y_ld st 1 rfl isAgg9 rfl rfl)) ?_
    refine vc_y rfl rfl (y_fa0 rfl underlying104 rfl rfl sizeOf4 rfl) ?_
    refine vc_y rfl rfl ((by exact y_ld st 0 rfl isAgg4 rfl rfl)) ?_
    refine vc_e (e_call [_, _] rfl rfl call78 rfl (namedk_any _ _ _) ?_)
    rintro _ _ ⟨rfl, rfl⟩
    refine vc_y rfl rfl (y_not rfl) ?_
    refine vc_y rfl rfl (y_pickf rfl rfl) ?_
    refine vc_e (e_mvb rfl rfl rfl ?_ ?_)
    ·
     intro hg31
     try simp only [dn] at hg31
     iterate 6 refine vc_e (e_skip rfl rfl ?_)
     refine vc_y rfl rfl (y_pickt rfl rfl) ?_
     refine vc_y rfl rfl (y_mv rfl) ?_
     iterate 9 refine vc_e (e_skip rfl rfl ?_)
     refine vc_y rfl rfl (y_pickt rfl rfl) ?_
     refine vc_y rfl rfl (y_mv rfl) ?_
     iterate 9 refine vc_e (e_skip rfl rfl ?_)
     refine vc_y rfl rfl (y_pickt rfl rfl) ?_
     refine vc_end (vq_then (vc_keep [(1, _), (6, _), (7, _), (9, _), (10, _), (11, _), (60, _)] ⟨rfl, rfl, rfl, rfl, rfl, rfl, rfl, trivial⟩ ?_))
     refine vc_ift rfl ?_
     refine vc_seq (vc_region ?_)
     refine vc_y rfl rfl (y_as rfl) ?_
     refine vc_end (vq_then (vc_keep [(4, _)] ⟨rfl, trivial⟩ (vc_ret (vq_then_ret (vq_block_ret (vq_then_ret (vq_then_ret (vq_block_ret (vq_then_ret ?_)))))))))
     refine vq_ret1 st (.inl rfl) results47 (.tmp rfl) ?_
     refine ⟨_, rfl, ?_⟩
     refine ⟨?_, st.chg⟩
     first
      | rw [rightSs_eq, all_end hall (by omega)]
      | (refine rightS_no hsj fun hR => ?_
         obtain ⟨r1, r2, r3, r4, r5, r6, r7, r8, r9⟩ := rightS_iff.1 hR
         clear st hsV hse hsb hsl hc hg hr ih hok hks hall
         first
           | omega
           | (simp_all; done)
           | (simp_all; omega)
           | (have hE : hasE s.k = true := by assumption
              rw [hE] at r4
              first
                | (rw [rightX_t (by omega) hx] at r4; simp_all; done)
                | (rw [rightX_n (by omega)] at r4; cases r4))
           | (have hE : hasE s.k = false := by assumption
              rw [hE, rightX_f, decide_eq_true_eq] at r4; omega))
    ·
     intro hg31
     try simp only [dn] at hg31
     refine vc_y rfl rfl ((by exact y_faz (k := 2) rfl underlying70 rfl rfl sizeOf9 rfl)) ?_
     refine vc_y rfl rfl ((by exact y_ld st 1 rfl isAgg9 rfl rfl)) ?_
     refine vc_y rfl rfl ((by exact y_faz (k := 1) rfl underlying104 rfl rfl sizeOf4 rfl)) ?_
     refine vc_y rfl rfl ((by exact y_ld st 0 rfl isAgg4 rfl rfl)) ?_
     refine vc_e (e_call [_, _] rfl rfl call78 rfl (namedk_any _ _ _) ?_)
     rintro _ _ ⟨rfl, rfl⟩
     refine vc_y rfl rfl (y_not rfl) ?_
     refine vc_y rfl rfl (y_pickf rfl rfl) ?_
     refine vc_e (e_mvb rfl rfl rfl ?_ ?_)
     ·
      intro hg39
      try simp only [dn] at hg39
      iterate 9 refine vc_e (e_skip rfl rfl ?_)
      refine vc_y rfl rfl (y_pickt rfl rfl) ?_
      refine vc_y rfl rfl (y_mv rfl) ?_
      iterate 9 refine vc_e (e_skip rfl rfl ?_)
      refine vc_y rfl rfl (y_pickt rfl rfl) ?_
      refine vc_end (vq_then (vc_keep [(1, _), (6, _), (7, _), (9, _), (10, _), (11, _), (60, _)] ⟨rfl, rfl, rfl, rfl, rfl, rfl, rfl, trivial⟩ ?_))
      refine vc_ift rfl ?_
      refine vc_seq (vc_region ?_)
      refine vc_y rfl rfl (y_as rfl) ?_
      refine vc_end (vq_then (vc_keep [(4, _)] ⟨rfl, trivial⟩ (vc_ret (vq_then_ret (vq_block_ret (vq_then_ret (vq_then_ret (vq_block_ret (vq_then_ret ?_)))))))))
      refine vq_ret1 st (.inl rfl) results47 (.tmp rfl) ?_
      refine ⟨_, rfl, ?_⟩
      refine ⟨?_, st.chg⟩
      first
       | rw [rightSs_eq, all_end hall (by omega)]
       | (refine rightS_no hsj fun hR => ?_
          obtain ⟨r1, r2, r3, r4, r5, r6, r7, r8, r9⟩ := rightS_iff.1 hR
          clear st hsV hse hsb hsl hc hg hr ih hok hks hall
          first
            | omega
            | (simp_all; done)
            | (simp_all; omega)
            | (have hE : hasE s.k = true := by assumption
               rw [hE] at r4
               first
                 | (rw [rightX_t (by omega) hx] at r4; simp_all; done)
                 | (rw [rightX_n (by omega)] at r4; cases r4))
            | (have hE : hasE s.k = false := by assumption
               rw [hE, rightX_f, decide_eq_true_eq] at r4; omega))
     ·
      intro hg39
      try simp only [dn] at hg39
      refine vc_y rfl rfl ((by exact y_faz (k := 3) rfl underlying104 rfl rfl sizeOf4 rfl)) ?_
      refine vc_y rfl rfl ((by exact y_ld st 0 rfl isAgg4 rfl rfl)) ?_
      refine vc_y rfl rfl (y_not rfl) ?_
      refine vc_e (e_mvb rfl rfl rfl ?_ ?_)
      ·
       intro hg43
       try simp only [dn] at hg43
       refine vc_y rfl rfl ((by exact y_faz (k := 4) rfl underlying70 rfl rfl sizeOf40 rfl)) ?_
       refine vc_y rfl rfl ((by exact y_ld st 1 rfl isAgg40 rfl rfl)) ?_
       refine vc_y rfl rfl (y_lensl rfl underlying40) ?_
       refine vc_y rfl rfl (y_gtr rfl rfl) ?_
       refine vc_y rfl rfl (y_pickt rfl rfl) ?_
       refine vc_y rfl rfl (y_pickf rfl rfl) ?_
       refine vc_e (e_mvb rfl rfl rfl ?_ ?_)
       ·
        intro hg50
        try simp only [dn] at hg50
        iterate 9 refine vc_e (e_skip rfl rfl ?_)
        refine vc_y rfl rfl (y_pickt rfl rfl) ?_
        refine vc_end (vq_then (vc_keep [(1, _), (6, _), (7, _), (9, _), (10, _), (11, _), (60, _)] ⟨rfl, rfl, rfl, rfl, rfl, rfl, rfl, trivial⟩ ?_))
        refine vc_ift rfl ?_
        refine vc_seq (vc_region ?_)
        refine vc_y rfl rfl (y_as rfl) ?_
        refine vc_end (vq_then (vc_keep [(4, _)] ⟨rfl, trivial⟩ (vc_ret (vq_then_ret (vq_block_ret (vq_then_ret (vq_then_ret (vq_block_ret (vq_then_ret ?_)))))))))
        refine vq_ret1 st (.inl rfl) results47 (.tmp rfl) ?_
        refine ⟨_, rfl, ?_⟩
        refine ⟨?_, st.chg⟩
        first
         | rw [rightSs_eq, all_end hall (by omega)]
         | (refine rightS_no hsj fun hR => ?_
            obtain ⟨r1, r2, r3, r4, r5, r6, r7, r8, r9⟩ := rightS_iff.1 hR
            clear st hsV hse hsb hsl hc hg hr ih hok hks hall
            first
              | omega
              | (simp_all; done)
              | (simp_all; omega)
              | (have hE : hasE s.k = true := by assumption
                 rw [hE] at r4
                 first
                   | (rw [rightX_t (by omega) hx] at r4; simp_all; done)
                   | (rw [rightX_n (by omega)] at r4; cases r4))
              | (have hE : hasE s.k = false := by assumption
                 rw [hE, rightX_f, decide_eq_true_eq] at r4; omega))
       ·
        intro hg50
        try simp only [dn] at hg50
        refine vc_y rfl rfl ((by exact y_faz (k := 4) rfl underlying104 rfl rfl sizeOf4 rfl)) ?_
        refine vc_y rfl rfl ((by exact y_ld st 0 rfl isAgg4 rfl rfl)) ?_
        refine vc_y rfl rfl (y_not rfl) ?_
        refine vc_e (e_mvb rfl rfl rfl ?_ ?_)
        ·
         intro hg54
         try simp only [dn] at hg54
         refine vc_y rfl rfl ((by exact y_faz (k := 5) rfl underlying70 rfl rfl sizeOf40 rfl)) ?_
         refine vc_y rfl rfl ((by exact y_ld st 1 rfl isAgg40 rfl rfl)) ?_
         refine vc_y rfl rfl (y_lensl rfl underlying40) ?_
         refine vc_y rfl rfl (y_gtr rfl rfl) ?_
         refine vc_y rfl rfl (y_pickt rfl rfl) ?_
         refine vc_y rfl rfl (y_pickf rfl rfl) ?_
         refine vc_end (vq_then (vc_keep [(1, _), (6, _), (7, _), (9, _), (10, _), (11, _), (60, _)] ⟨rfl, rfl, rfl, rfl, rfl, rfl, rfl, trivial⟩ ?_))
         refine vc_ifs rfl ?_ ?_
         ·
          intro hc60
          try simp only [dn] at hc60
          refine vc_seq (vc_region ?_)
          refine vc_y rfl rfl (y_as rfl) ?_
          refine vc_end (vq_then (vc_keep [(4, _)] ⟨rfl, trivial⟩ (vc_ret (vq_then_ret (vq_block_ret (vq_then_ret (vq_then_ret (vq_block_ret (vq_then_ret ?_)))))))))
          refine vq_ret1 st (.inl rfl) results47 (.tmp rfl) ?_
          refine ⟨_, rfl, ?_⟩
          refine ⟨?_, st.chg⟩
          first
           | rw [rightSs_eq, all_end hall (by omega)]
           | (refine rightS_no hsj fun hR => ?_
              obtain ⟨r1, r2, r3, r4, r5, r6, r7, r8, r9⟩ := rightS_iff.1 hR
              clear st hsV hse hsb hsl hc hg hr ih hok hks hall
              first
                | omega
                | (simp_all; done)
                | (simp_all; omega)
                | (have hE : hasE s.k = true := by assumption
                   rw [hE] at r4
                   first
                     | (rw [rightX_t (by omega) hx] at r4; simp_all; done)
                     | (rw [rightX_n (by omega)] at r4; cases r4))
                | (have hE : hasE s.k = false := by assumption
                   rw [hE, rightX_f, decide_eq_true_eq] at r4; omega))
         ·
          intro hc60
          try simp only [dn] at hc60
          refine vc_code_skip ?_
          refine vq_meet () ⟨rfl, rfl, rfl, rfl, rfl, rfl, trivial⟩ st ?_
          ·
           refine ⟨by assumption, by assumption, by assumption, ?_, ?_⟩ <;> first | (left; assumption) | (right; omega)
        ·
         intro hg54
         try simp only [dn] at hg54
         iterate 4 refine vc_e (e_skip rfl rfl ?_)
         iterate 2 refine vc_y rfl rfl (y_pickf rfl rfl) ?_
         refine vc_end (vq_then (vc_keep [(1, _), (6, _), (7, _), (9, _), (10, _), (11, _), (60, _)] ⟨rfl, rfl, rfl, rfl, rfl, rfl, rfl, trivial⟩ ?_))
         refine vc_iff rfl ?_
         refine vc_code_skip ?_
         refine vq_meet () ⟨rfl, rfl, rfl, rfl, rfl, rfl, trivial⟩ st ?_
         ·
          refine ⟨by assumption, by assumption, by assumption, ?_, ?_⟩ <;> first | (left; assumption) | (right; omega)
      ·
       intro hg43
       try simp only [dn] at hg43
       iterate 4 refine vc_e (e_skip rfl rfl ?_)
       iterate 2 refine vc_y rfl rfl (y_pickf rfl rfl) ?_
       refine vc_y rfl rfl (y_mv rfl) ?_
       refine vc_y rfl rfl ((by exact y_faz (k := 4) rfl underlying104 rfl rfl sizeOf4 rfl)) ?_
       refine vc_y rfl rfl ((by exact y_ld st 0 rfl isAgg4 rfl rfl)) ?_
       refine vc_y rfl rfl (y_not rfl) ?_
       refine vc_e (e_mvb rfl rfl rfl ?_ ?_)
       ·
        intro hg54
        try simp only [dn] at hg54
        refine vc_y rfl rfl ((by exact y_faz (k := 5) rfl underlying70 rfl rfl sizeOf40 rfl)) ?_
        refine vc_y rfl rfl ((by exact y_ld st 1 rfl isAgg40 rfl rfl)) ?_
        refine vc_y rfl rfl (y_lensl rfl underlying40) ?_
        refine vc_y rfl rfl (y_gtr rfl rfl) ?_
        refine vc_y rfl rfl (y_pickt rfl rfl) ?_
        refine vc_y rfl rfl (y_pickf rfl rfl) ?_
        refine vc_end (vq_then (vc_keep [(1, _), (6, _), (7, _), (9, _), (10, _), (11, _), (60, _)] ⟨rfl, rfl, rfl, rfl, rfl, rfl, rfl, trivial⟩ ?_))
        refine vc_ifs rfl ?_ ?_
        ·
         intro hc60
         try simp only [dn] at hc60
         refine vc_seq (vc_region ?_)
         refine vc_y rfl rfl (y_as rfl) ?_
         refine vc_end (vq_then (vc_keep [(4, _)] ⟨rfl, trivial⟩ (vc_ret (vq_then_ret (vq_block_ret (vq_then_ret (vq_then_ret (vq_block_ret (vq_then_ret ?_)))))))))
         refine vq_ret1 st (.inl rfl) results47 (.tmp rfl) ?_
         refine ⟨_, rfl, ?_⟩
         refine ⟨?_, st.chg⟩
         first
          | rw [rightSs_eq, all_end hall (by omega)]
          | (refine rightS_no hsj fun hR => ?_
             obtain ⟨r1, r2, r3, r4, r5, r6, r7, r8, r9⟩ := rightS_iff.1 hR
             clear st hsV hse hsb hsl hc hg hr ih hok hks hall
             first
               | omega
               | (simp_all; done)
               | (simp_all; omega)
               | (have hE : hasE s.k = true := by assumption
                  rw [hE] at r4
                  first
                    | (rw [rightX_t (by omega) hx] at r4; simp_all; done)
                    | (rw [rightX_n (by omega)] at r4; cases r4))
               | (have hE : hasE s.k = false := by assumption
                  rw [hE, rightX_f, decide_eq_true_eq] at r4; omega))
        ·
         intro hc60
         try simp only [dn] at hc60
         refine vc_code_skip ?_
         refine vq_meet () ⟨rfl, rfl, rfl, rfl, rfl, rfl, trivial⟩ st ?_
         ·
          refine ⟨by assumption, by assumption, by assumption, ?_, ?_⟩ <;> first | (left; assumption) | (right; omega)
       ·
        intro hg54
        try simp only [dn] at hg54
        iterate 4 refine vc_e (e_skip rfl rfl ?_)
        iterate 2 refine vc_y rfl rfl (y_pickf rfl rfl) ?_
        refine vc_end (vq_then (vc_keep [(1, _), (6, _), (7, _), (9, _), (10, _), (11, _), (60, _)] ⟨rfl, rfl, rfl, rfl, rfl, rfl, rfl, trivial⟩ ?_))
        refine vc_iff rfl ?_
        refine vc_code_skip ?_
        refine vq_meet () ⟨rfl, rfl, rfl, rfl, rfl, rfl, trivial⟩ st ?_
        ·
         refine ⟨by assumption, by assumption, by assumption, ?_, ?_⟩ <;> first | (left; assumption) | (right; omega)
  ·
   clear st
   rintro ⟨⟩ w ⟨hA1, hA2, hA3, hA4, hA5⟩ st
   refine vc_cut (w0 := w0) (M := []) (fun (_ : Unit) => [(1, .int .i64 (d : Int)), (6, .pointer (some ⟨b6, 0, none⟩)), (7, .pointer (some ⟨b7, 0, none⟩)), (9, .slice (some ⟨gb, go, none⟩) ss.length cap), (10, .int .i64 (ss.length : Int)), (11, .int .i64 (j : Int))]) (fun _ => [.blk b7 (.cells (shpL s.k).toArray 104 (0, 0)), .blk b6 (.cells (smL s oe ob ol ce cb cl).toArray 70 (0, 0))]) (fun _ _ => rightX (hasE s.k) s.e = true) ?_ ?_
   ·
    refine vc_seq (vc_region ?_)
    refine vc_y rfl rfl ((by exact y_faz (k := 2) rfl underlying104 rfl rfl sizeOf4 rfl)) ?_
    refine vc_y rfl rfl ((by exact y_ld st 0 rfl isAgg4 rfl rfl)) ?_
    refine vc_e (e_mvb rfl rfl rfl ?_ ?_)
    ·
     intro hg63
     try simp only [dn] at hg63
     refine vc_y rfl rfl ((by exact y_faz (k := 3) rfl underlying70 rfl rfl sizeOf61 rfl)) ?_
     refine vc_y rfl rfl ((by exact y_ld st 1 rfl isAgg61 rfl rfl)) ?_
     refine vc_y rfl rfl (y_lensl rfl underlying61) ?_
     refine vc_y rfl rfl (y_nei rfl rfl) ?_
     refine vc_e (e_mvb rfl rfl rfl ?_ ?_)
     ·
      intro hg68
      try simp only [dn] at hg68
      iterate 6 refine vc_e (e_skip rfl rfl ?_)
      iterate 2 refine vc_y rfl rfl (y_pickt rfl rfl) ?_
      refine vc_y rfl rfl (y_mv rfl) ?_
      iterate 9 refine vc_e (e_skip rfl rfl ?_)
      refine vc_y rfl rfl (y_pickt rfl rfl) ?_
      refine vc_end (vq_then (vc_keep [(1, _), (6, _), (7, _), (9, _), (10, _), (11, _), (87, _)] ⟨rfl, rfl, rfl, rfl, rfl, rfl, rfl, trivial⟩ ?_))
      refine vc_ift rfl ?_
      refine vc_seq (vc_region ?_)
      refine vc_y rfl rfl (y_as rfl) ?_
      refine vc_end (vq_then (vc_keep [(4, _)] ⟨rfl, trivial⟩ (vc_ret (vq_then_ret (vq_block_ret (vq_then_ret (vq_then_ret (vq_block_ret (vq_then_ret ?_)))))))))
      refine vq_ret1 st (.inl rfl) results47 (.tmp rfl) ?_
      refine ⟨_, rfl, ?_⟩
      refine ⟨?_, st.chg⟩
      first
       | rw [rightSs_eq, all_end hall (by omega)]
       | (refine rightS_no hsj fun hR => ?_
          obtain ⟨r1, r2, r3, r4, r5, r6, r7, r8, r9⟩ := rightS_iff.1 hR
          clear st hsV hse hsb hsl hc hg hr ih hok hks hall
          first
            | omega
            | (simp_all; done)
            | (simp_all; omega)
            | (have hE : hasE s.k = true := by assumption
               rw [hE] at r4
               first
                 | (rw [rightX_t (by omega) hx] at r4; simp_all; done)
                 | (rw [rightX_n (by omega)] at r4; cases r4))
            | (have hE : hasE s.k = false := by assumption
               rw [hE, rightX_f, decide_eq_true_eq] at r4; omega))
     ·
      intro hg68
      try simp only [dn] at hg68
      obtain ⟨x, hx⟩ := get0 (l := s.e) (n := s.e.length) rfl (by omega)
      obtain ⟨eb, eo, rfl, heS, hel, heg⟩ := ExRow.at hse (by omega)
      obtain ⟨o0, c0, hV0, hr0, hc0⟩ := heg 0 x hx
      refine vc_y rfl rfl ((by exact y_faz (k := 3) rfl underlying70 rfl rfl sizeOf61 rfl)) ?_
      refine vc_y rfl rfl ((by exact y_ld st 1 rfl isAgg61 rfl rfl)) ?_
      refine vc_y rfl rfl ((by exact y_ia (k := 0) rfl rfl underlying61 sizeOf63 rfl (by omega))) ?_
      refine vc_y rfl rfl ((by exact y_ldca (exL x o0 c0) rfl isAgg63 sizeOf63 rfl (fun i v hi => st.chg.cell (hc0 i v hi) (by simp)))) ?_
      refine vc_e (e_call [_, _] rfl rfl call63 rfl (expr_any _ x rfl 0 (by omega) _ _ (hV0.kept (Same.of_nil st.chg)) (hsg.kept st.chg)) ?_)
      rintro _ w ⟨rfl, cw⟩
      replace st := st.call0 cw
      refine vc_y rfl rfl (y_not rfl) ?_
      refine vc_y rfl rfl (y_pickf rfl rfl) ?_
      refine vc_y rfl rfl (y_pickt rfl rfl) ?_
      refine vc_e (e_mvb rfl rfl rfl ?_ ?_)
      ·
       intro hg77
       try simp only [dn] at hg77
       iterate 9 refine vc_e (e_skip rfl rfl ?_)
       refine vc_y rfl rfl (y_pickt rfl rfl) ?_
       refine vc_end (vq_then (vc_keep [(1, _), (6, _), (7, _), (9, _), (10, _), (11, _), (87, _)] ⟨rfl, rfl, rfl, rfl, rfl, rfl, rfl, trivial⟩ ?_))
       refine vc_ift rfl ?_
       refine vc_seq (vc_region ?_)
       refine vc_y rfl rfl (y_as rfl) ?_
       refine vc_end (vq_then (vc_keep [(4, _)] ⟨rfl, trivial⟩ (vc_ret (vq_then_ret (vq_block_ret (vq_then_ret (vq_then_ret (vq_block_ret (vq_then_ret ?_)))))))))
       refine vq_ret1 st (.inl rfl) results47 (.tmp rfl) ?_
       refine ⟨_, rfl, ?_⟩
       refine ⟨?_, st.chg⟩
       first
        | rw [rightSs_eq, all_end hall (by omega)]
        | (refine rightS_no hsj fun hR => ?_
           obtain ⟨r1, r2, r3, r4, r5, r6, r7, r8, r9⟩ := rightS_iff.1 hR
           clear st hsV hse hsb hsl hc hg hr ih hok hks hall
           first
             | omega
             | (simp_all; done)
             | (simp_all; omega)
             | (have hE : hasE s.k = true := by assumption
                rw [hE] at r4
                first
                  | (rw [rightX_t (by omega) hx] at r4; simp_all; done)
                  | (rw [rightX_n (by omega)] at r4; cases r4))
             | (have hE : hasE s.k = false := by assumption
                rw [hE, rightX_f, decide_eq_true_eq] at r4; omega))
      ·
       intro hg77
       try simp only [dn] at hg77
       refine vc_y rfl rfl ((by exact y_faz (k := 2) rfl underlying104 rfl rfl sizeOf4 rfl)) ?_
       refine vc_y rfl rfl ((by exact y_ld st 0 rfl isAgg4 rfl rfl)) ?_
       refine vc_y rfl rfl (y_not rfl) ?_
       refine vc_e (e_mvb rfl rfl rfl ?_ ?_)
       ·
        intro hg81
        try simp only [dn] at hg81
        refine vc_y rfl rfl ((by exact y_faz (k := 3) rfl underlying70 rfl rfl sizeOf61 rfl)) ?_
        refine vc_y rfl rfl ((by exact y_ld st 1 rfl isAgg61 rfl rfl)) ?_
        refine vc_y rfl rfl (y_lensl rfl underlying61) ?_
        refine vc_y rfl rfl (y_gtr rfl rfl) ?_
        refine vc_y rfl rfl (y_pickt rfl rfl) ?_
        refine vc_y rfl rfl (y_pickf rfl rfl) ?_
        refine vc_end (vq_then (vc_keep [(1, _), (6, _), (7, _), (9, _), (10, _), (11, _), (87, _)] ⟨rfl, rfl, rfl, rfl, rfl, rfl, rfl, trivial⟩ ?_))
        refine vc_ifs rfl ?_ ?_
        ·
         intro hc87
         try simp only [dn] at hc87
         refine vc_seq (vc_region ?_)
         refine vc_y rfl rfl (y_as rfl) ?_
         refine vc_end (vq_then (vc_keep [(4, _)] ⟨rfl, trivial⟩ (vc_ret (vq_then_ret (vq_block_ret (vq_then_ret (vq_then_ret (vq_block_ret (vq_then_ret ?_)))))))))
         refine vq_ret1 st (.inl rfl) results47 (.tmp rfl) ?_
         refine ⟨_, rfl, ?_⟩
         refine ⟨?_, st.chg⟩
         first
          | rw [rightSs_eq, all_end hall (by omega)]
          | (refine rightS_no hsj fun hR => ?_
             obtain ⟨r1, r2, r3, r4, r5, r6, r7, r8, r9⟩ := rightS_iff.1 hR
             clear st hsV hse hsb hsl hc hg hr ih hok hks hall
             first
               | omega
               | (simp_all; done)
               | (simp_all; omega)
               | (have hE : hasE s.k = true := by assumption
                  rw [hE] at r4
                  first
                    | (rw [rightX_t (by omega) hx] at r4; simp_all; done)
                    | (rw [rightX_n (by omega)] at r4; cases r4))
               | (have hE : hasE s.k = false := by assumption
                  rw [hE, rightX_f, decide_eq_true_eq] at r4; omega))
        ·
         intro hc87
         try simp only [dn] at hc87
         refine vc_code_skip ?_
         refine vq_meet () ⟨rfl, rfl, rfl, rfl, rfl, rfl, trivial⟩ st ?_
         ·
          first
           | (exfalso; have h1 : hasE s.k = true := by assumption
              have h2 : hasE s.k = false := by assumption
              rw [h1] at h2; cases h2)
           | (have hE : hasE s.k = true := by assumption
              rw [hE, rightX_t (by omega) hx]; assumption)
           | (have hE : hasE s.k = false := by assumption
              rw [hE, rightX_f, decide_eq_true_eq]; omega)
       ·
        intro hg81
        try simp only [dn] at hg81
        iterate 4 refine vc_e (e_skip rfl rfl ?_)
        iterate 2 refine vc_y rfl rfl (y_pickf rfl rfl) ?_
        refine vc_end (vq_then (vc_keep [(1, _), (6, _), (7, _), (9, _), (10, _), (11, _), (87, _)] ⟨rfl, rfl, rfl, rfl, rfl, rfl, rfl, trivial⟩ ?_))
        refine vc_iff rfl ?_
        refine vc_code_skip ?_
        refine vq_meet () ⟨rfl, rfl, rfl, rfl, rfl, rfl, trivial⟩ st ?_
        ·
         first
          | (exfalso; have h1 : hasE s.k = true := by assumption
             have h2 : hasE s.k = false := by assumption
             rw [h1] at h2; cases h2)
          | (have hE : hasE s.k = true := by assumption
             rw [hE, rightX_t (by omega) hx]; assumption)
          | (have hE : hasE s.k = false := by assumption
             rw [hE, rightX_f, decide_eq_true_eq]; omega)
    ·
     intro hg63
     try simp only [dn] at hg63
     iterate 12 refine vc_e (e_skip rfl rfl ?_)
     refine vc_y rfl rfl (y_pickf rfl rfl) ?_
     refine vc_y rfl rfl (y_mv rfl) ?_
     refine vc_y rfl rfl ((by exact y_faz (k := 2) rfl underlying104 rfl rfl sizeOf4 rfl)) ?_
     refine vc_y rfl rfl ((by exact y_ld st 0 rfl isAgg4 rfl rfl)) ?_
     refine vc_y rfl rfl (y_not rfl) ?_
     refine vc_e (e_mvb rfl rfl rfl ?_ ?_)
     ·
      intro hg81
      try simp only [dn] at hg81
      refine vc_y rfl rfl ((by exact y_faz (k := 3) rfl underlying70 rfl rfl sizeOf61 rfl)) ?_
      refine vc_y rfl rfl ((by exact y_ld st 1 rfl isAgg61 rfl rfl)) ?_
      refine vc_y rfl rfl (y_lensl rfl underlying61) ?_
      refine vc_y rfl rfl (y_gtr rfl rfl) ?_
      refine vc_y rfl rfl (y_pickt rfl rfl) ?_
      refine vc_y rfl rfl (y_pickf rfl rfl) ?_
      refine vc_end (vq_then (vc_keep [(1, _), (6, _), (7, _), (9, _), (10, _), (11, _), (87, _)] ⟨rfl, rfl, rfl, rfl, rfl, rfl, rfl, trivial⟩ ?_))
      refine vc_ifs rfl ?_ ?_
      ·
       intro hc87
       try simp only [dn] at hc87
       refine vc_seq (vc_region ?_)
       refine vc_y rfl rfl (y_as rfl) ?_
       refine vc_end (vq_then (vc_keep [(4, _)] ⟨rfl, trivial⟩ (vc_ret (vq_then_ret (vq_block_ret (vq_then_ret (vq_then_ret (vq_block_ret (vq_then_ret ?_)))))))))
       refine vq_ret1 st (.inl rfl) results47 (.tmp rfl) ?_
       refine ⟨_, rfl, ?_⟩
       refine ⟨?_, st.chg⟩
       first
        | rw [rightSs_eq, all_end hall (by omega)]
        | (refine rightS_no hsj fun hR => ?_
           obtain ⟨r1, r2, r3, r4, r5, r6, r7, r8, r9⟩ := rightS_iff.1 hR
           clear st hsV hse hsb hsl hc hg hr ih hok hks hall
           first
             | omega
             | (simp_all; done)
             | (simp_all; omega)
             | (have hE : hasE s.k = true := by assumption
                rw [hE] at r4
                first
                  | (rw [rightX_t (by omega) hx] at r4; simp_all; done)
                  | (rw [rightX_n (by omega)] at r4; cases r4))
             | (have hE : hasE s.k = false := by assumption
                rw [hE, rightX_f, decide_eq_true_eq] at r4; omega))
      ·
       intro hc87
       try simp only [dn] at hc87
       refine vc_code_skip ?_
       refine vq_meet () ⟨rfl, rfl, rfl, rfl, rfl, rfl, trivial⟩ st ?_
       ·
        first
         | (exfalso; have h1 : hasE s.k = true := by assumption
            have h2 : hasE s.k = false := by assumption
            rw [h1] at h2; cases h2)
         | (have hE : hasE s.k = true := by assumption
            rw [hE, rightX_t (by omega) hx]; assumption)
         | (have hE : hasE s.k = false := by assumption
            rw [hE, rightX_f, decide_eq_true_eq]; omega)
     ·
      intro hg81
      try simp only [dn] at hg81
      iterate 4 refine vc_e (e_skip rfl rfl ?_)
      iterate 2 refine vc_y rfl rfl (y_pickf rfl rfl) ?_
      refine vc_end (vq_then (vc_keep [(1, _), (6, _), (7, _), (9, _), (10, _), (11, _), (87, _)] ⟨rfl, rfl, rfl, rfl, rfl, rfl, rfl, trivial⟩ ?_))
      refine vc_iff rfl ?_
      refine vc_code_skip ?_
      refine vq_meet () ⟨rfl, rfl, rfl, rfl, rfl, rfl, trivial⟩ st ?_
      ·
       first
        | (exfalso; have h1 : hasE s.k = true := by assumption
           have h2 : hasE s.k = false := by assumption
           rw [h1] at h2; cases h2)
        | (have hE : hasE s.k = true := by assumption
           rw [hE, rightX_t (by omega) hx]; assumption)
        | (have hE : hasE s.k = false := by assumption
           rw [hE, rightX_f, decide_eq_true_eq]; omega)
   ·
    clear st
    rintro ⟨⟩ w hA6 st
    refine vc_seq (vc_region ?_)
    refine vc_y rfl rfl ((by exact y_faz (k := 3) rfl underlying104 rfl rfl sizeOf4 rfl)) ?_
    refine vc_y rfl rfl ((by exact y_ld st 0 rfl isAgg4 rfl rfl)) ?_
    refine vc_e (e_mvb rfl rfl rfl ?_ ?_)
    ·
     intro hg90
     try simp only [dn] at hg90
     iterate 4 refine vc_e (e_skip rfl rfl ?_)
     refine vc_y rfl rfl (y_pickt rfl rfl) ?_
     iterate 2 refine vc_y rfl rfl (y_mv rfl) ?_
     refine vc_y rfl rfl (y_geq rfl rfl) ?_
     refine vc_y rfl rfl (y_pickt rfl rfl) ?_
     refine vc_e (e_mvb rfl rfl rfl ?_ ?_)
     ·
      intro hg100
      try simp only [dn] at hg100
      iterate 6 refine vc_e (e_skip rfl rfl ?_)
      refine vc_y rfl rfl (y_pickt rfl rfl) ?_
      refine vc_y rfl rfl (y_mv rfl) ?_
      iterate 6 refine vc_e (e_skip rfl rfl ?_)
      refine vc_y rfl rfl (y_pickt rfl rfl) ?_
      refine vc_end (vq_then (vc_keep [(1, _), (9, _), (10, _), (11, _), (115, _)] ⟨rfl, rfl, rfl, rfl, rfl, trivial⟩ ?_))
      refine vc_ift rfl ?_
      refine vc_seq (vc_region ?_)
      refine vc_y rfl rfl (y_as rfl) ?_
      refine vc_end (vq_then (vc_keep [(4, _)] ⟨rfl, trivial⟩ (vc_ret (vq_block_ret (vq_then_ret (vq_then_ret (vq_block_ret (vq_then_ret ?_))))))))
      refine vq_ret1 st (.inl rfl) results47 (.tmp rfl) ?_
      refine ⟨_, rfl, ?_⟩
      refine ⟨?_, st.chg⟩
      first
       | rw [rightSs_eq, all_end hall (by omega)]
       | (refine rightS_no hsj fun hR => ?_
          obtain ⟨r1, r2, r3, r4, r5, r6, r7, r8, r9⟩ := rightS_iff.1 hR
          clear st hsV hse hsb hsl hc hg hr ih hok hks hall
          first
            | omega
            | (simp_all; done)
            | (simp_all; omega)
            | (have hE : hasE s.k = true := by assumption
               rw [hE] at r4
               first
                 | (rw [rightX_t (by omega) hx] at r4; simp_all; done)
                 | (rw [rightX_n (by omega)] at r4; cases r4))
            | (have hE : hasE s.k = false := by assumption
               rw [hE, rightX_f, decide_eq_true_eq] at r4; omega))
     ·
      intro hg100
      try simp only [dn] at hg100
      refine vc_y rfl rfl ((by exact y_faz (k := 4) rfl underlying70 rfl rfl sizeOf40 rfl)) ?_
      refine vc_y rfl rfl ((by exact y_ld st 1 rfl isAgg40 rfl rfl)) ?_
      refine vc_y rfl rfl (y_mv rfl) ?_
      refine vc_y rfl rfl (y_add rfl rfl (by omega : _ = ((d + 1 : Nat) : Int)) (by omega) (by omega)) ?_
      refine vc_e (e_call [_, _] rfl rfl call47 rfl (ih (szo s.body) hB s.body rfl (d + 1) (by omega) (by first | (right; omega) | (left; exact hA4.resolve_left (by rw [‹hasB s.k = false›]; simp))) _ _ _ (hsb.kept (Same.of_nil st.chg)) hks.body (hsg.kept st.chg)) ?_)
      rintro _ w ⟨rfl, cw⟩
      replace st := st.call0 cw
      refine vc_y rfl rfl (y_not rfl) ?_
      refine vc_y rfl rfl (y_pickf rfl rfl) ?_
      refine vc_e (e_mvb rfl rfl rfl ?_ ?_)
      ·
       intro hg108
       try simp only [dn] at hg108
       iterate 6 refine vc_e (e_skip rfl rfl ?_)
       refine vc_y rfl rfl (y_pickt rfl rfl) ?_
       refine vc_end (vq_then (vc_keep [(1, _), (9, _), (10, _), (11, _), (115, _)] ⟨rfl, rfl, rfl, rfl, rfl, trivial⟩ ?_))
       refine vc_ift rfl ?_
       refine vc_seq (vc_region ?_)
       refine vc_y rfl rfl (y_as rfl) ?_
       refine vc_end (vq_then (vc_keep [(4, _)] ⟨rfl, trivial⟩ (vc_ret (vq_block_ret (vq_then_ret (vq_then_ret (vq_block_ret (vq_then_ret ?_))))))))
       refine vq_ret1 st (.inl rfl) results47 (.tmp rfl) ?_
       refine ⟨_, rfl, ?_⟩
       refine ⟨?_, st.chg⟩
       first
        | rw [rightSs_eq, all_end hall (by omega)]
        | (refine rightS_no hsj fun hR => ?_
           obtain ⟨r1, r2, r3, r4, r5, r6, r7, r8, r9⟩ := rightS_iff.1 hR
           clear st hsV hse hsb hsl hc hg hr ih hok hks hall
           first
             | omega
             | (simp_all; done)
             | (simp_all; omega)
             | (have hE : hasE s.k = true := by assumption
                rw [hE] at r4
                first
                  | (rw [rightX_t (by omega) hx] at r4; simp_all; done)
                  | (rw [rightX_n (by omega)] at r4; cases r4))
             | (have hE : hasE s.k = false := by assumption
                rw [hE, rightX_f, decide_eq_true_eq] at r4; omega))
      ·
       intro hg108
       try simp only [dn] at hg108
       skip
       refine vc_y rfl rfl ((by exact y_faz (k := 5) rfl underlying70 rfl rfl sizeOf40 rfl)) ?_
       refine vc_y rfl rfl ((by exact y_ld st 1 rfl isAgg40 rfl rfl)) ?_
       refine vc_y rfl rfl (y_mv rfl) ?_
       refine vc_y rfl rfl (y_add rfl rfl (by omega : _ = ((d + 1 : Nat) : Int)) (by omega) (by omega)) ?_
       refine vc_e (e_call [_, _] rfl rfl call47 rfl (ih (szo s.els) hL s.els rfl (d + 1) (by omega) (by first | (right; omega) | (left; omega)) _ _ _ (hsl.kept (Same.of_nil st.chg)) hks.els (hsg.kept st.chg)) ?_)
       rintro _ w ⟨rfl, cw⟩
       replace st := st.call0 cw
       refine vc_y rfl rfl (y_not rfl) ?_
       refine vc_y rfl rfl (y_pickf rfl rfl) ?_
       refine vc_end (vq_then (vc_keep [(1, _), (9, _), (10, _), (11, _), (115, _)] ⟨rfl, rfl, rfl, rfl, rfl, trivial⟩ ?_))
       refine vc_ifs rfl ?_ ?_
       ·
        intro hc115
        try simp only [dn] at hc115
        refine vc_seq (vc_region ?_)
        refine vc_y rfl rfl (y_as rfl) ?_
        refine vc_end (vq_then (vc_keep [(4, _)] ⟨rfl, trivial⟩ (vc_ret (vq_block_ret (vq_then_ret (vq_then_ret (vq_block_ret (vq_then_ret ?_))))))))
        refine vq_ret1 st (.inl rfl) results47 (.tmp rfl) ?_
        refine ⟨_, rfl, ?_⟩
        refine ⟨?_, st.chg⟩
        first
         | rw [rightSs_eq, all_end hall (by omega)]
         | (refine rightS_no hsj fun hR => ?_
            obtain ⟨r1, r2, r3, r4, r5, r6, r7, r8, r9⟩ := rightS_iff.1 hR
            clear st hsV hse hsb hsl hc hg hr ih hok hks hall
            first
              | omega
              | (simp_all; done)
              | (simp_all; omega)
              | (have hE : hasE s.k = true := by assumption
                 rw [hE] at r4
                 first
                   | (rw [rightX_t (by omega) hx] at r4; simp_all; done)
                   | (rw [rightX_n (by omega)] at r4; cases r4))
              | (have hE : hasE s.k = false := by assumption
                 rw [hE, rightX_f, decide_eq_true_eq] at r4; omega))
       ·
        intro hc115
        try simp only [dn] at hc115
        refine vc_code_skip (vq_block (vq_then (vc_keep [(1, _), (9, _), (10, _), (11, _)] ⟨rfl, rfl, rfl, rfl, trivial⟩ (vc_region ?_))))
        refine vc_y rfl rfl (y_add rfl rfl (by omega : _ = ((j + 1 : Nat) : Int)) (by omega) (by omega)) ?_
        refine vc_y rfl rfl (y_mv rfl) ?_
        refine vc_end ?_
        refine vq_again (j + 1)  ⟨rfl, rfl, rfl, rfl, trivial⟩ (st.drop (by repeat (first | exact sl0 | apply sl1 | apply sl2))) ?_ ?_
        ·
         exact ⟨by omega, all_take' hall hsj (rightS_iff.2 ⟨hA1, hA2, hA3, hA6, hA4, hA5, by first | (left; exact ⟨by assumption, by omega⟩) | (right; omega), by assumption, by assumption⟩)⟩
        ·
         omega
    ·
     intro hg90
     try simp only [dn] at hg90
     refine vc_y rfl rfl ((by exact y_faz (k := 5) rfl underlying70 rfl rfl sizeOf40 rfl)) ?_
     refine vc_y rfl rfl ((by exact y_ld st 1 rfl isAgg40 rfl rfl)) ?_
     refine vc_y rfl rfl (y_lensl rfl underlying40) ?_
     refine vc_y rfl rfl (y_gtr rfl rfl) ?_
     refine vc_y rfl rfl (y_pickf rfl rfl) ?_
     refine vc_e (e_mvb rfl rfl rfl ?_ ?_)
     ·
      intro hg96
      try simp only [dn] at hg96
      refine vc_y rfl rfl (y_mv rfl) ?_
      refine vc_y rfl rfl (y_geq rfl rfl) ?_
      refine vc_y rfl rfl (y_pickt rfl rfl) ?_
      refine vc_e (e_mvb rfl rfl rfl ?_ ?_)
      ·
       intro hg100
       try simp only [dn] at hg100
       iterate 6 refine vc_e (e_skip rfl rfl ?_)
       refine vc_y rfl rfl (y_pickt rfl rfl) ?_
       refine vc_y rfl rfl (y_mv rfl) ?_
       iterate 6 refine vc_e (e_skip rfl rfl ?_)
       refine vc_y rfl rfl (y_pickt rfl rfl) ?_
       refine vc_end (vq_then (vc_keep [(1, _), (9, _), (10, _), (11, _), (115, _)] ⟨rfl, rfl, rfl, rfl, rfl, trivial⟩ ?_))
       refine vc_ift rfl ?_
       refine vc_seq (vc_region ?_)
       refine vc_y rfl rfl (y_as rfl) ?_
       refine vc_end (vq_then (vc_keep [(4, _)] ⟨rfl, trivial⟩ (vc_ret (vq_block_ret (vq_then_ret (vq_then_ret (vq_block_ret (vq_then_ret ?_))))))))
       refine vq_ret1 st (.inl rfl) results47 (.tmp rfl) ?_
       refine ⟨_, rfl, ?_⟩
       refine ⟨?_, st.chg⟩
       first
        | rw [rightSs_eq, all_end hall (by omega)]
        | (refine rightS_no hsj fun hR => ?_
           obtain ⟨r1, r2, r3, r4, r5, r6, r7, r8, r9⟩ := rightS_iff.1 hR
           clear st hsV hse hsb hsl hc hg hr ih hok hks hall
           first
             | omega
             | (simp_all; done)
             | (simp_all; omega)
             | (have hE : hasE s.k = true := by assumption
                rw [hE] at r4
                first
                  | (rw [rightX_t (by omega) hx] at r4; simp_all; done)
                  | (rw [rightX_n (by omega)] at r4; cases r4))
             | (have hE : hasE s.k = false := by assumption
                rw [hE, rightX_f, decide_eq_true_eq] at r4; omega))
      ·
       intro hg100
       try simp only [dn] at hg100
       refine vc_y rfl rfl ((by exact y_faz (k := 4) rfl underlying70 rfl rfl sizeOf40 rfl)) ?_
       refine vc_y rfl rfl ((by exact y_ld st 1 rfl isAgg40 rfl rfl)) ?_
       refine vc_y rfl rfl (y_mv rfl) ?_
       refine vc_y rfl rfl (y_add rfl rfl (by omega : _ = ((d + 1 : Nat) : Int)) (by omega) (by omega)) ?_
       refine vc_e (e_call [_, _] rfl rfl call47 rfl (ih (szo s.body) hB s.body rfl (d + 1) (by omega) (by first | (right; omega) | (left; exact hA4.resolve_left (by rw [‹hasB s.k = false›]; simp))) _ _ _ (hsb.kept (Same.of_nil st.chg)) hks.body (hsg.kept st.chg)) ?_)
       rintro _ w ⟨rfl, cw⟩
       replace st := st.call0 cw
       refine vc_y rfl rfl (y_not rfl) ?_
       refine vc_y rfl rfl (y_pickf rfl rfl) ?_
       refine vc_e (e_mvb rfl rfl rfl ?_ ?_)
       ·
        intro hg108
        try simp only [dn] at hg108
        iterate 6 refine vc_e (e_skip rfl rfl ?_)
        refine vc_y rfl rfl (y_pickt rfl rfl) ?_
        refine vc_end (vq_then (vc_keep [(1, _), (9, _), (10, _), (11, _), (115, _)] ⟨rfl, rfl, rfl, rfl, rfl, trivial⟩ ?_))
        refine vc_ift rfl ?_
        refine vc_seq (vc_region ?_)
        refine vc_y rfl rfl (y_as rfl) ?_
        refine vc_end (vq_then (vc_keep [(4, _)] ⟨rfl, trivial⟩ (vc_ret (vq_block_ret (vq_then_ret (vq_then_ret (vq_block_ret (vq_then_ret ?_))))))))
        refine vq_ret1 st (.inl rfl) results47 (.tmp rfl) ?_
        refine ⟨_, rfl, ?_⟩
        refine ⟨?_, st.chg⟩
        first
         | rw [rightSs_eq, all_end hall (by omega)]
         | (refine rightS_no hsj fun hR => ?_
            obtain ⟨r1, r2, r3, r4, r5, r6, r7, r8, r9⟩ := rightS_iff.1 hR
            clear st hsV hse hsb hsl hc hg hr ih hok hks hall
            first
              | omega
              | (simp_all; done)
              | (simp_all; omega)
              | (have hE : hasE s.k = true := by assumption
                 rw [hE] at r4
                 first
                   | (rw [rightX_t (by omega) hx] at r4; simp_all; done)
                   | (rw [rightX_n (by omega)] at r4; cases r4))
              | (have hE : hasE s.k = false := by assumption
                 rw [hE, rightX_f, decide_eq_true_eq] at r4; omega))
       ·
        intro hg108
        try simp only [dn] at hg108
        skip
        refine vc_y rfl rfl ((by exact y_faz (k := 5) rfl underlying70 rfl rfl sizeOf40 rfl)) ?_
        refine vc_y rfl rfl ((by exact y_ld st 1 rfl isAgg40 rfl rfl)) ?_
        refine vc_y rfl rfl (y_mv rfl) ?_
        refine vc_y rfl rfl (y_add rfl rfl (by omega : _ = ((d + 1 : Nat) : Int)) (by omega) (by omega)) ?_
        refine vc_e (e_call [_, _] rfl rfl call47 rfl (ih (szo s.els) hL s.els rfl (d + 1) (by omega) (by first | (right; omega) | (left; omega)) _ _ _ (hsl.kept (Same.of_nil st.chg)) hks.els (hsg.kept st.chg)) ?_)
        rintro _ w ⟨rfl, cw⟩
        replace st := st.call0 cw
        refine vc_y rfl rfl (y_not rfl) ?_
        refine vc_y rfl rfl (y_pickf rfl rfl) ?_
        refine vc_end (vq_then (vc_keep [(1, _), (9, _), (10, _), (11, _), (115, _)] ⟨rfl, rfl, rfl, rfl, rfl, trivial⟩ ?_))
        refine vc_ifs rfl ?_ ?_
        ·
         intro hc115
         try simp only [dn] at hc115
         refine vc_seq (vc_region ?_)
         refine vc_y rfl rfl (y_as rfl) ?_
         refine vc_end (vq_then (vc_keep [(4, _)] ⟨rfl, trivial⟩ (vc_ret (vq_block_ret (vq_then_ret (vq_then_ret (vq_block_ret (vq_then_ret ?_))))))))
         refine vq_ret1 st (.inl rfl) results47 (.tmp rfl) ?_
         refine ⟨_, rfl, ?_⟩
         refine ⟨?_, st.chg⟩
         first
          | rw [rightSs_eq, all_end hall (by omega)]
          | (refine rightS_no hsj fun hR => ?_
             obtain ⟨r1, r2, r3, r4, r5, r6, r7, r8, r9⟩ := rightS_iff.1 hR
             clear st hsV hse hsb hsl hc hg hr ih hok hks hall
             first
               | omega
               | (simp_all; done)
               | (simp_all; omega)
               | (have hE : hasE s.k = true := by assumption
                  rw [hE] at r4
                  first
                    | (rw [rightX_t (by omega) hx] at r4; simp_all; done)
                    | (rw [rightX_n (by omega)] at r4; cases r4))
               | (have hE : hasE s.k = false := by assumption
                  rw [hE, rightX_f, decide_eq_true_eq] at r4; omega))
        ·
         intro hc115
         try simp only [dn] at hc115
         refine vc_code_skip (vq_block (vq_then (vc_keep [(1, _), (9, _), (10, _), (11, _)] ⟨rfl, rfl, rfl, rfl, trivial⟩ (vc_region ?_))))
         refine vc_y rfl rfl (y_add rfl rfl (by omega : _ = ((j + 1 : Nat) : Int)) (by omega) (by omega)) ?_
         refine vc_y rfl rfl (y_mv rfl) ?_
         refine vc_end ?_
         refine vq_again (j + 1)  ⟨rfl, rfl, rfl, rfl, trivial⟩ (st.drop (by repeat (first | exact sl0 | apply sl1 | apply sl2))) ?_ ?_
         ·
          exact ⟨by omega, all_take' hall hsj (rightS_iff.2 ⟨hA1, hA2, hA3, hA6, hA4, hA5, by first | (left; exact ⟨by assumption, by omega⟩) | (right; omega), by assumption, by assumption⟩)⟩
         ·
          omega
     ·
      intro hg96
      try simp only [dn] at hg96
      iterate 2 refine vc_e (e_skip rfl rfl ?_)
      refine vc_y rfl rfl (y_pickf rfl rfl) ?_
      refine vc_y rfl rfl (y_mv rfl) ?_
      refine vc_y rfl rfl ((by exact y_faz (k := 4) rfl underlying70 rfl rfl sizeOf40 rfl)) ?_
      refine vc_y rfl rfl ((by exact y_ld st 1 rfl isAgg40 rfl rfl)) ?_
      refine vc_y rfl rfl (y_mv rfl) ?_
      refine vc_y rfl rfl (y_add rfl rfl (by omega : _ = ((d + 1 : Nat) : Int)) (by omega) (by omega)) ?_
      refine vc_e (e_call [_, _] rfl rfl call47 rfl (ih (szo s.body) hB s.body rfl (d + 1) (by omega) (by first | (right; omega) | (left; exact hA4.resolve_left (by rw [‹hasB s.k = false›]; simp))) _ _ _ (hsb.kept (Same.of_nil st.chg)) hks.body (hsg.kept st.chg)) ?_)
      rintro _ w ⟨rfl, cw⟩
      replace st := st.call0 cw
      refine vc_y rfl rfl (y_not rfl) ?_
      refine vc_y rfl rfl (y_pickf rfl rfl) ?_
      refine vc_e (e_mvb rfl rfl rfl ?_ ?_)
      ·
       intro hg108
       try simp only [dn] at hg108
       iterate 6 refine vc_e (e_skip rfl rfl ?_)
       refine vc_y rfl rfl (y_pickt rfl rfl) ?_
       refine vc_end (vq_then (vc_keep [(1, _), (9, _), (10, _), (11, _), (115, _)] ⟨rfl, rfl, rfl, rfl, rfl, trivial⟩ ?_))
       refine vc_ift rfl ?_
       refine vc_seq (vc_region ?_)
       refine vc_y rfl rfl (y_as rfl) ?_
       refine vc_end (vq_then (vc_keep [(4, _)] ⟨rfl, trivial⟩ (vc_ret (vq_block_ret (vq_then_ret (vq_then_ret (vq_block_ret (vq_then_ret ?_))))))))
       refine vq_ret1 st (.inl rfl) results47 (.tmp rfl) ?_
       refine ⟨_, rfl, ?_⟩
       refine ⟨?_, st.chg⟩
       first
        | rw [rightSs_eq, all_end hall (by omega)]
        | (refine rightS_no hsj fun hR => ?_
           obtain ⟨r1, r2, r3, r4, r5, r6, r7, r8, r9⟩ := rightS_iff.1 hR
           clear st hsV hse hsb hsl hc hg hr ih hok hks hall
           first
             | omega
             | (simp_all; done)
             | (simp_all; omega)
             | (have hE : hasE s.k = true := by assumption
                rw [hE] at r4
                first
                  | (rw [rightX_t (by omega) hx] at r4; simp_all; done)
                  | (rw [rightX_n (by omega)] at r4; cases r4))
             | (have hE : hasE s.k = false := by assumption
                rw [hE, rightX_f, decide_eq_true_eq] at r4; omega))
      ·
       intro hg108
       try simp only [dn] at hg108
       skip
       refine vc_y rfl rfl ((by exact y_faz (k := 5) rfl underlying70 rfl rfl sizeOf40 rfl)) ?_
       refine vc_y rfl rfl ((by exact y_ld st 1 rfl isAgg40 rfl rfl)) ?_
       refine vc_y rfl rfl (y_mv rfl) ?_
       refine vc_y rfl rfl (y_add rfl rfl (by omega : _ = ((d + 1 : Nat) : Int)) (by omega) (by omega)) ?_
       refine vc_e (e_call [_, _] rfl rfl call47 rfl (ih (szo s.els) hL s.els rfl (d + 1) (by omega) (by first | (right; omega) | (left; omega)) _ _ _ (hsl.kept (Same.of_nil st.chg)) hks.els (hsg.kept st.chg)) ?_)
       rintro _ w ⟨rfl, cw⟩
       replace st := st.call0 cw
       refine vc_y rfl rfl (y_not rfl) ?_
       refine vc_y rfl rfl (y_pickf rfl rfl) ?_
       refine vc_end (vq_then (vc_keep [(1, _), (9, _), (10, _), (11, _), (115, _)] ⟨rfl, rfl, rfl, rfl, rfl, trivial⟩ ?_))
       refine vc_ifs rfl ?_ ?_
       ·
        intro hc115
        try simp only [dn] at hc115
        refine vc_seq (vc_region ?_)
        refine vc_y rfl rfl (y_as rfl) ?_
        refine vc_end (vq_then (vc_keep [(4, _)] ⟨rfl, trivial⟩ (vc_ret (vq_block_ret (vq_then_ret (vq_then_ret (vq_block_ret (vq_then_ret ?_))))))))
        refine vq_ret1 st (.inl rfl) results47 (.tmp rfl) ?_
        refine ⟨_, rfl, ?_⟩
        refine ⟨?_, st.chg⟩
        first
         | rw [rightSs_eq, all_end hall (by omega)]
         | (refine rightS_no hsj fun hR => ?_
            obtain ⟨r1, r2, r3, r4, r5, r6, r7, r8, r9⟩ := rightS_iff.1 hR
            clear st hsV hse hsb hsl hc hg hr ih hok hks hall
            first
              | omega
              | (simp_all; done)
              | (simp_all; omega)
              | (have hE : hasE s.k = true := by assumption
                 rw [hE] at r4
                 first
                   | (rw [rightX_t (by omega) hx] at r4; simp_all; done)
                   | (rw [rightX_n (by omega)] at r4; cases r4))
              | (have hE : hasE s.k = false := by assumption
                 rw [hE, rightX_f, decide_eq_true_eq] at r4; omega))
       ·
        intro hc115
        try simp only [dn] at hc115
        refine vc_code_skip (vq_block (vq_then (vc_keep [(1, _), (9, _), (10, _), (11, _)] ⟨rfl, rfl, rfl, rfl, trivial⟩ (vc_region ?_))))
        refine vc_y rfl rfl (y_add rfl rfl (by omega : _ = ((j + 1 : Nat) : Int)) (by omega) (by omega)) ?_
        refine vc_y rfl rfl (y_mv rfl) ?_
        refine vc_end ?_
        refine vq_again (j + 1)  ⟨rfl, rfl, rfl, rfl, trivial⟩ (st.drop (by repeat (first | exact sl0 | apply sl1 | apply sl2))) ?_ ?_
        ·
         exact ⟨by omega, all_take' hall hsj (rightS_iff.2 ⟨hA1, hA2, hA3, hA6, hA4, hA5, by first | (left; exact ⟨by assumption, by omega⟩) | (right; omega), by assumption, by assumption⟩)⟩
        ·
         omega
 ·
  intro hc12
  try simp only [dn] at hc12
  refine vc_exit (vq_then_exit (vq_then_exit (vq_block_exit (vq_then (vc_keep [] trivial (vc_seq (vc_region ?_)))))))
  refine vc_y rfl rfl (y_as rfl) ?_
  refine vc_end (vq_then (vc_keep [(4, _)] ⟨rfl, trivial⟩ (vc_ret ?_)))
  refine vq_ret1 st (.inl rfl) results47 (.tmp rfl) ?_
  refine ⟨_, rfl, ?_⟩
  refine ⟨?_, st.chg⟩
  first
   | rw [rightSs_eq, all_end hall (by omega)]
   | (refine rightS_no hsj fun hR => ?_
      obtain ⟨r1, r2, r3, r4, r5, r6, r7, r8, r9⟩ := rightS_iff.1 hR
      clear st hsV hse hsb hsl hc hg hr ih hok hks hall
      first
        | omega
        | (simp_all; done)
        | (simp_all; omega)
        | (have hE : hasE s.k = true := by assumption
           rw [hE] at r4
           first
             | (rw [rightX_t (by omega) hx] at r4; simp_all; done)
             | (rw [rightX_n (by omega)] at r4; cases r4))
        | (have hE : hasE s.k = false := by assumption
           rw [hE, rightX_f, decide_eq_true_eq] at r4; omega))

end
end Go.Proofs.YtnmhlpnapgojjaaDoor


namespace Go.Proofs.YtnmhlpnapgojjaaDoor
open Go.RowKit Sx LexS _root_.Go.Proofs.Tryd
set_option linter.unusedVariables false
set_option linter.unusedSimpArgs false
section
variable {S : Nat → Prop}

end
end Go.Proofs.YtnmhlpnapgojjaaDoor


namespace Go.Proofs.YtnmhlpnapgojjaaDoor
open Go.RowKit Sx LexS
set_option linter.unusedVariables false
set_option linter.unusedSimpArgs false
section
variable {S : Nat → Prop}
abbrev pgL (p : Pg) (os ol ot : Option Addr) (cs cl ct : Nat) : List Value := [.slice os p.shared.length cs, .slice ol p.locks.length cl, .slice ot p.threads.length ct]

set_option maxHeartbeats 1000000 in
theorem right_any (p : Pg) (os ol ot : Option Addr) (cs cl ct : Nat) (w : World) (hS : DcRow w S os p.shared) (hL : DcRow w S ol p.locks) (hT : ThRow w S ot p.threads) (hok : OkP p) (hsg : Sig w) : Ret Tryd.prog 18 [.agg (pgL p os ol ot cs cl ct).toArray] w fun v w' => v = .bool (pgOk p) ∧ Chg [] w w' := by
  refine ret_of [_] Tryd.func18 rfl Tryd.ntmps18 rfl ?_
  have st := St.init w []
  obtain ⟨w0, rfl⟩ : ∃ w0, w0 = w := ⟨_, rfl⟩
  have hn1 := hok.1.1
  have hn2 := hok.2.1.1
  have hn3 := hok.2.2.1
  refine vc_seq ?_
  refine vc_region ?_
  refine vc_e (e_bx (l := [_, _, _]) st rfl rfl rfl rfl ?_)
  intro b1 w hb1 st
  refine vc_y rfl rfl (y_as rfl) ?_
  refine vc_end ?_
  refine vq_then ?_
  refine vc_keep [(1, _)] ⟨rfl, trivial⟩ ?_
  refine vc_seq ?_
  refine vc_seq ?_
  refine vc_region ?_
  refine vc_y rfl rfl (y_fa0 rfl Tryd.underlying25 rfl rfl Tryd.sizeOf22 rfl) ?_
  refine vc_y rfl rfl ((by exact y_ld st 0 rfl Tryd.isAgg22 rfl rfl)) ?_
  refine vc_e (e_call [_, _] rfl rfl Tryd.call46 rfl (decls_any p.shared _ _ true _ (RowC.kept hS (Same.of_nil st.chg)) (by unfold maxLen; omega)) ?_)
  rintro _ w ⟨rfl, cw⟩
  replace st := st.call0 cw
  refine vc_y rfl rfl (y_not rfl) ?_
  refine vc_e (e_mvb rfl rfl rfl ?_ ?_)
  · intro hg9
    try simp only [dn] at hg9
    refine vc_e (e_skip rfl rfl ?_)
    refine vc_e (e_skip rfl rfl ?_)
    refine vc_e (e_skip rfl rfl ?_)
    refine vc_e (e_skip rfl rfl ?_)
    refine vc_y rfl rfl (y_pickt rfl rfl) ?_
    refine vc_end ?_
    refine vq_then ?_
    refine vc_keep [(1, _), (14, _)] ⟨rfl, rfl, trivial⟩ ?_
    refine vc_ift rfl ?_
    refine vc_seq ?_
    refine vc_region ?_
    refine vc_y rfl rfl (y_as rfl) ?_
    refine vc_end ?_
    refine vq_then ?_
    refine vc_keep [(2, _)] ⟨rfl, trivial⟩ ?_
    refine vc_ret ?_
    refine vq_then_ret ?_
    refine vq_ret1 st (.inl rfl) Tryd.results18 (.tmp rfl) ?_
    refine ⟨_, rfl, ?_⟩
    refine ⟨?_, st.chg⟩
    show Value.bool _ = Value.bool _
    congr 1
    symm
    unfold pgOk
    clear st
    try simp only [show decide (1 ≤ 64) = true from rfl, Bool.true_and] at *
    first
      | (rw [‹p.shared.all (dcOk true) = false›]; simp; done)
      | (rw [‹p.locks.all (dcOk false) = false›]; simp; done)
      | (rw [‹p.shared.all (dcOk true) = true›, ‹p.locks.all (dcOk false) = true›, all_end hall (by omega)]; rfl)
      | (rw [all_no' (p := thOk) htj (by unfold thOk; simp only [*, Bool.and_false, Bool.false_and, Bool.and_true, Bool.true_and])]; simp)
  · intro hg9
    try simp only [dn] at hg9
    refine vc_y rfl rfl ((by exact y_faz (k := 1) rfl Tryd.underlying25 rfl rfl Tryd.sizeOf22 rfl)) ?_
    refine vc_y rfl rfl ((by exact y_ld st 0 rfl Tryd.isAgg22 rfl rfl)) ?_
    refine vc_e (e_call [_, _] rfl rfl Tryd.call46 rfl (decls_any p.locks _ _ false _ (RowC.kept hL (Same.of_nil st.chg)) (by unfold maxLen; omega)) ?_)
    rintro _ w ⟨rfl, cw⟩
    replace st := st.call0 cw
    refine vc_y rfl rfl (y_not rfl) ?_
    refine vc_y rfl rfl (y_pickf rfl rfl) ?_
    refine vc_end ?_
    refine vq_then ?_
    refine vc_keep [(1, _), (14, _)] ⟨rfl, rfl, trivial⟩ ?_
    refine vc_ifs rfl ?_ ?_
    · intro hc14
      try simp only [dn] at hc14
      refine vc_seq ?_
      refine vc_region ?_
      refine vc_y rfl rfl (y_as rfl) ?_
      refine vc_end ?_
      refine vq_then ?_
      refine vc_keep [(2, _)] ⟨rfl, trivial⟩ ?_
      refine vc_ret ?_
      refine vq_then_ret ?_
      refine vq_ret1 st (.inl rfl) Tryd.results18 (.tmp rfl) ?_
      refine ⟨_, rfl, ?_⟩
      refine ⟨?_, st.chg⟩
      show Value.bool _ = Value.bool _
      congr 1
      symm
      unfold pgOk
      clear st
      try simp only [show decide (1 ≤ 64) = true from rfl, Bool.true_and] at *
      first
        | (rw [‹p.shared.all (dcOk true) = false›]; simp; done)
        | (rw [‹p.locks.all (dcOk false) = false›]; simp; done)
        | (rw [‹p.shared.all (dcOk true) = true›, ‹p.locks.all (dcOk false) = true›, all_end hall (by omega)]; rfl)
        | (rw [all_no' (p := thOk) htj (by unfold thOk; simp only [*, Bool.and_false, Bool.false_and, Bool.and_true, Bool.true_and])]; simp)
    · intro hc14
      try simp only [dn] at hc14
      refine vc_code_skip ?_
      refine vq_then ?_
      refine vc_keep [(1, _)] ⟨rfl, trivial⟩ ?_
      refine vc_seq ?_
      refine vc_seq ?_
      refine vc_region ?_
      refine vc_y rfl rfl ((by exact y_faz (k := 2) rfl Tryd.underlying25 rfl rfl Tryd.sizeOf23 rfl)) ?_
      refine vc_y rfl rfl ((by exact y_ld st 0 rfl Tryd.isAgg23 rfl rfl)) ?_
      refine vc_y rfl rfl (y_lensl rfl Tryd.underlying23) ?_
      refine vc_y rfl rfl (y_mv rfl) ?_
      refine vc_end ?_
      refine vq_then ?_
      refine vc_keep [(16, _), (17, _), (18, _)] ⟨rfl, rfl, rfl, trivial⟩ ?_
      refine vc_block ?_
      refine vc_loop (w0 := w0) (M := []) (fun (j : Nat) => [(16, .slice ot p.threads.length ct), (17, .int .i64 (p.threads.length : Int)), (18, .int .i64 (j : Int))]) (fun _ => []) (fun j _ => j ≤ p.threads.length ∧ (p.threads.take j).all thOk = true) (fun j => p.threads.length - j) 0 ⟨rfl, rfl, rfl, trivial⟩ (st.drop (by repeat (first | exact sl0 | apply sl1 | apply sl2))) ⟨by omega, by simp⟩ ?_
      clear st
      rintro j w ⟨hj, hall⟩ st
      refine vc_seq ?_
      refine vc_region ?_
      refine vc_y rfl rfl (y_lss rfl rfl) ?_
      refine vc_end ?_
      refine vq_then ?_
      refine vc_keep [(16, _), (17, _), (18, _), (19, _)] ⟨rfl, rfl, rfl, rfl, trivial⟩ ?_
      refine vc_seq ?_
      refine vc_ifs rfl ?_ ?_
      · intro hc19
        try simp only [dn] at hc19
        obtain ⟨t, htj⟩ : ∃ t, p.threads[j]? = some t := ⟨_, List.getElem?_eq_getElem (by omega)⟩
        obtain ⟨gb, go, rfl, hgS, hgl, hg⟩ := ThRow.at hT (by omega)
        obtain ⟨tl, tb, cll, cbb, htl, htb, hc⟩ := hg j t htj
        have hkt := hok.2.2.2 j t htj
        refine vc_code_skip ?_
        refine vq_then ?_
        refine vc_keep [(16, _), (17, _), (18, _)] ⟨rfl, rfl, rfl, trivial⟩ ?_
        refine vc_seq ?_
        refine vc_block ?_
        refine vc_seq ?_
        refine vc_region ?_
        refine vc_y rfl rfl ((by exact y_ia (k := j) rfl rfl Tryd.underlying23 Tryd.sizeOf42 rfl (by omega))) ?_
        refine vc_y rfl rfl ((by exact y_ldca (thL t tl tb cll cbb) rfl Tryd.isAgg42 Tryd.sizeOf42 rfl (fun i v hi => st.chg.cell (hc i v hi) (by simp)))) ?_
        refine vc_e (e_al (l := [_, _, _, _]) st rfl rfl Tryd.zeroValue42 rfl ?_)
        intro b4 w hb4 st
        refine vc_e (e_sts (vs := [_, _, _, _]) st 0 rfl rfl rfl rfl rfl Tryd.sizeOf42 rfl rfl (by first | (right; assumption) | (left; simp)) ?_)
        intro w st; dsimp only [setNth, wr] at st
        refine vc_end ?_
        refine vq_then ?_
        refine vc_keep [(4, _), (16, _), (17, _), (18, _)] ⟨rfl, rfl, rfl, rfl, trivial⟩ ?_
        refine vc_seq ?_
        refine vc_region ?_
        refine vc_y rfl rfl (y_fa0 rfl Tryd.underlying42 rfl rfl Tryd.sizeOf9 rfl) ?_
        refine vc_y rfl rfl ((by exact y_ld st 0 rfl Tryd.isAgg9 rfl rfl)) ?_
        refine vc_e (e_call [_] rfl rfl Tryd.call36 rfl (name_any _ _) ?_)
        rintro _ _ ⟨rfl, rfl⟩
        refine vc_y rfl rfl (y_not rfl) ?_
        refine vc_e (e_mvb rfl rfl rfl ?_ ?_)
        · intro hg26
          try simp only [dn] at hg26
          refine vc_e (e_skip rfl rfl ?_)
          refine vc_e (e_skip rfl rfl ?_)
          refine vc_e (e_skip rfl rfl ?_)
          refine vc_e (e_skip rfl rfl ?_)
          refine vc_y rfl rfl (y_pickt rfl rfl) ?_
          refine vc_y rfl rfl (y_mv rfl) ?_
          refine vc_e (e_skip rfl rfl ?_)
          refine vc_e (e_skip rfl rfl ?_)
          refine vc_e (e_skip rfl rfl ?_)
          refine vc_e (e_skip rfl rfl ?_)
          refine vc_y rfl rfl (y_pickt rfl rfl) ?_
          refine vc_end ?_
          refine vq_then ?_
          refine vc_keep [(16, _), (17, _), (18, _), (37, _)] ⟨rfl, rfl, rfl, rfl, trivial⟩ ?_
          refine vc_ift rfl ?_
          refine vc_seq ?_
          refine vc_region ?_
          refine vc_y rfl rfl (y_as rfl) ?_
          refine vc_end ?_
          refine vq_then ?_
          refine vc_keep [(2, _)] ⟨rfl, trivial⟩ ?_
          refine vc_ret ?_
          refine vq_block_ret ?_
          refine vq_then_ret ?_
          refine vq_then_ret ?_
          refine vq_block_ret ?_
          refine vq_then_ret ?_
          refine vq_ret1 st (.inl rfl) Tryd.results18 (.tmp rfl) ?_
          refine ⟨_, rfl, ?_⟩
          refine ⟨?_, st.chg⟩
          show Value.bool _ = Value.bool _
          congr 1
          symm
          unfold pgOk
          clear st
          try simp only [show decide (1 ≤ 64) = true from rfl, Bool.true_and] at *
          first
            | (rw [‹p.shared.all (dcOk true) = false›]; simp; done)
            | (rw [‹p.locks.all (dcOk false) = false›]; simp; done)
            | (rw [‹p.shared.all (dcOk true) = true›, ‹p.locks.all (dcOk false) = true›, all_end hall (by omega)]; rfl)
            | (rw [all_no' (p := thOk) htj (by unfold thOk; simp only [*, Bool.and_false, Bool.false_and, Bool.and_true, Bool.true_and])]; simp)
        · intro hg26
          try simp only [dn] at hg26
          refine vc_y rfl rfl ((by exact y_faz (k := 1) rfl Tryd.underlying42 rfl rfl Tryd.sizeOf22 rfl)) ?_
          refine vc_y rfl rfl ((by exact y_ld st 0 rfl Tryd.isAgg22 rfl rfl)) ?_
          refine vc_e (e_call [_, _] rfl rfl Tryd.call46 rfl (decls_any t.locals _ _ false _ (RowC.kept htl (Same.of_nil st.chg)) (by have := hkt.1.1; unfold maxLen; omega)) ?_)
          rintro _ w ⟨rfl, cw⟩
          replace st := st.call0 cw
          refine vc_y rfl rfl (y_not rfl) ?_
          refine vc_y rfl rfl (y_pickf rfl rfl) ?_
          refine vc_e (e_mvb rfl rfl rfl ?_ ?_)
          · intro hg32
            try simp only [dn] at hg32
            refine vc_e (e_skip rfl rfl ?_)
            refine vc_e (e_skip rfl rfl ?_)
            refine vc_e (e_skip rfl rfl ?_)
            refine vc_e (e_skip rfl rfl ?_)
            refine vc_y rfl rfl (y_pickt rfl rfl) ?_
            refine vc_end ?_
            refine vq_then ?_
            refine vc_keep [(16, _), (17, _), (18, _), (37, _)] ⟨rfl, rfl, rfl, rfl, trivial⟩ ?_
            refine vc_ift rfl ?_
            refine vc_seq ?_
            refine vc_region ?_
            refine vc_y rfl rfl (y_as rfl) ?_
            refine vc_end ?_
            refine vq_then ?_
            refine vc_keep [(2, _)] ⟨rfl, trivial⟩ ?_
            refine vc_ret ?_
            refine vq_block_ret ?_
            refine vq_then_ret ?_
            refine vq_then_ret ?_
            refine vq_block_ret ?_
            refine vq_then_ret ?_
            refine vq_ret1 st (.inl rfl) Tryd.results18 (.tmp rfl) ?_
            refine ⟨_, rfl, ?_⟩
            refine ⟨?_, st.chg⟩
            show Value.bool _ = Value.bool _
            congr 1
            symm
            unfold pgOk
            clear st
            try simp only [show decide (1 ≤ 64) = true from rfl, Bool.true_and] at *
            first
              | (rw [‹p.shared.all (dcOk true) = false›]; simp; done)
              | (rw [‹p.locks.all (dcOk false) = false›]; simp; done)
              | (rw [‹p.shared.all (dcOk true) = true›, ‹p.locks.all (dcOk false) = true›, all_end hall (by omega)]; rfl)
              | (rw [all_no' (p := thOk) htj (by unfold thOk; simp only [*, Bool.and_false, Bool.false_and, Bool.and_true, Bool.true_and])]; simp)
          · intro hg32
            try simp only [dn] at hg32
            refine vc_y rfl rfl ((by exact y_faz (k := 2) rfl Tryd.underlying42 rfl rfl Tryd.sizeOf40 rfl)) ?_
            refine vc_y rfl rfl ((by exact y_ld st 0 rfl Tryd.isAgg40 rfl rfl)) ?_
            refine vc_e (e_call [_, _] rfl rfl Tryd.call47 rfl (stmts_any _ t.body rfl 1 (by omega) (.inr (by omega)) _ _ _ (htb.kept (Same.of_nil st.chg)) hkt.2.1 (hsg.kept st.chg)) ?_)
            rintro _ w ⟨rfl, cw⟩
            replace st := st.call0 cw
            refine vc_y rfl rfl (y_not rfl) ?_
            refine vc_y rfl rfl (y_pickf rfl rfl) ?_
            refine vc_end ?_
            refine vq_then ?_
            refine vc_keep [(16, _), (17, _), (18, _), (37, _)] ⟨rfl, rfl, rfl, rfl, trivial⟩ ?_
            refine vc_ifs rfl ?_ ?_
            · intro hc37
              try simp only [dn] at hc37
              refine vc_seq ?_
              refine vc_region ?_
              refine vc_y rfl rfl (y_as rfl) ?_
              refine vc_end ?_
              refine vq_then ?_
              refine vc_keep [(2, _)] ⟨rfl, trivial⟩ ?_
              refine vc_ret ?_
              refine vq_block_ret ?_
              refine vq_then_ret ?_
              refine vq_then_ret ?_
              refine vq_block_ret ?_
              refine vq_then_ret ?_
              refine vq_ret1 st (.inl rfl) Tryd.results18 (.tmp rfl) ?_
              refine ⟨_, rfl, ?_⟩
              refine ⟨?_, st.chg⟩
              show Value.bool _ = Value.bool _
              congr 1
              symm
              unfold pgOk
              clear st
              try simp only [show decide (1 ≤ 64) = true from rfl, Bool.true_and] at *
              first
                | (rw [‹p.shared.all (dcOk true) = false›]; simp; done)
                | (rw [‹p.locks.all (dcOk false) = false›]; simp; done)
                | (rw [‹p.shared.all (dcOk true) = true›, ‹p.locks.all (dcOk false) = true›, all_end hall (by omega)]; rfl)
                | (rw [all_no' (p := thOk) htj (by unfold thOk; simp only [*, Bool.and_false, Bool.false_and, Bool.and_true, Bool.true_and])]; simp)
            · intro hc37
              try simp only [dn] at hc37
              refine vc_code_skip ?_
              refine vq_block ?_
              refine vq_then ?_
              refine vc_keep [(16, _), (17, _), (18, _)] ⟨rfl, rfl, rfl, trivial⟩ ?_
              refine vc_region ?_
              refine vc_y rfl rfl (y_add rfl rfl (by omega : _ = ((j + 1 : Nat) : Int)) (by omega) (by omega)) ?_
              refine vc_y rfl rfl (y_mv rfl) ?_
              refine vc_end ?_
              refine vq_again (j + 1)  ⟨rfl, rfl, rfl, trivial⟩ (st.drop (by repeat (first | exact sl0 | apply sl1 | apply sl2))) ?_ ?_
              · exact ⟨by omega, all_take' hall htj (by unfold thOk; clear st; (try simp only [show decide (1 ≤ 64) = true from rfl, Bool.true_and] at *); simp only [*, Bool.and_self])⟩
              · omega
      · intro hc19
        try simp only [dn] at hc19
        refine vc_exit ?_
        refine vq_then_exit ?_
        refine vq_then_exit ?_
        refine vq_block_exit ?_
        refine vq_then ?_
        refine vc_keep [] trivial ?_
        refine vc_seq ?_
        refine vc_region ?_
        refine vc_y rfl rfl (y_as rfl) ?_
        refine vc_end ?_
        refine vq_then ?_
        refine vc_keep [(2, _)] ⟨rfl, trivial⟩ ?_
        refine vc_ret ?_
        refine vq_ret1 st (.inl rfl) Tryd.results18 (.tmp rfl) ?_
        refine ⟨_, rfl, ?_⟩
        refine ⟨?_, st.chg⟩
        show Value.bool _ = Value.bool _
        congr 1
        symm
        unfold pgOk
        clear st
        try simp only [show decide (1 ≤ 64) = true from rfl, Bool.true_and] at *
        first
          | (rw [‹p.shared.all (dcOk true) = false›]; simp; done)
          | (rw [‹p.locks.all (dcOk false) = false›]; simp; done)
          | (rw [‹p.shared.all (dcOk true) = true›, ‹p.locks.all (dcOk false) = true›, all_end hall (by omega)]; rfl)
          | (rw [all_no' (p := thOk) htj (by unfold thOk; simp only [*, Bool.and_false, Bool.false_and, Bool.and_true, Bool.true_and])]; simp)

end
end Go.Proofs.YtnmhlpnapgojjaaDoor


namespace Go.Proofs.YtnmhlpnapgojjaaDoor
open Go.RowKit Sx LexS
set_option linter.unusedVariables false
set_option linter.unusedSimpArgs false
def thsT (ts : List Th) : List UInt8 := (ts.map thT).flatten
theorem thsT_succ {ts : List Th} {j : Nat} {t : Th} (h : ts[j]? = some t) : thsT (ts.take (j + 1)) = thsT (ts.take j) ++ thT t := by
  obtain ⟨hj, e⟩ := List.getElem?_eq_some_iff.1 h
  unfold thsT
  rw [List.take_succ_eq_append_getElem hj, e]
  simp
theorem thsT_split (ts : List Th) (j : Nat) : thsT ts = thsT (ts.take j) ++ thsT (ts.drop j) := by
  unfold thsT
  rw [← List.flatten_append, ← List.map_append, List.take_append_drop]
def pgH (p : Pg) : List UInt8 := dcsT [115, 104, 97, 114, 101, 100] 0 p.shared ++ dcsT [108, 111, 99, 107] 0 p.locks
theorem pgT_eq (p : Pg) : pgT p = pgH p ++ thsT p.threads := rfl
theorem pgT_le (p : Pg) (j : Nat) : (pgH p ++ thsT (p.threads.take j)).length ≤ (pgT p).length := by
  rw [pgT_eq, thsT_split p.threads j]; simp
theorem pgRes_no {p : Pg} (h : pgOk p = false) : pgRes p = ([], 40) := by unfold pgRes; rw [h]; rfl
theorem pgRes_long {p : Pg} (h : pgOk p = true) (hl : 65536 < (pgT p).length) : pgRes p = ([], 4) := by unfold pgRes; rw [if_pos h, if_neg (by omega)]
theorem pgRes_ok {p : Pg} (h : pgOk p = true) (hl : (pgT p).length ≤ 65536) : pgRes p = (pgT p, 0) := by unfold pgRes; rw [if_pos h, if_pos hl]
theorem WS.yes {l F : List UInt8} (h : WS l false F) : l = F ∧ F.length ≤ 65536 := by
  rcases h with ⟨_, h1, h2⟩ | ⟨h, _⟩
  · exact ⟨h1, h2⟩
  · cases h
theorem WS.long {l F : List UInt8} (h : WS l true F) : 65536 < F.length := by
  rcases h with ⟨h, _⟩ | ⟨_, h, _⟩
  · cases h
  · exact h
theorem pgOk_inv {p : Pg} (h : pgOk p = true) : p.shared.all (dcOk true) = true ∧ p.locks.all (dcOk false) = true ∧ ∀ (j : Nat) t, p.threads[j]? = some t → isName t.nm = true ∧ t.locals.all (dcOk false) = true ∧ rightSs t.body 1 = true := by
  unfold pgOk at h
  simp only [Bool.and_eq_true] at h
  refine ⟨h.1.1, h.1.2, fun j t hj => ?_⟩
  have := List.all_eq_true.1 h.2 t (List.mem_of_getElem? hj)
  unfold thOk at this
  simp only [Bool.and_eq_true] at this
  exact ⟨this.1.1, this.1.2, this.2⟩

end Go.Proofs.YtnmhlpnapgojjaaDoor

